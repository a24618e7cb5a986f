/- Walks over the abstract machine: readers of packed numbers, by pointer; and the reference's, by value. -/
import Derived.Test.YtlegolcbjjjofaaAmFacts
import Derived.Test.YtlegolcbjjjofaaAmNum
import Derived.Test.YtlegolcbjjjofaaAfClone
import Derived.Test.YtlegolcbjjjofaaAfBasea
namespace Go.Proofs.Ytlegolcbjjjofaa.AmF
open Go Go.AM
set_option maxRecDepth 100000
set_option linter.unusedSimpArgs false
set_option linter.unusedVariables false
attribute [local simp] tkeep tget tput ev cav argsTM pickA normT putA splice AV.cells ints_length rowsA_length
/-- A reader's cells: its row, its place, its error. -/
def RC (l : List Int) (p : Nat) (e : Int) : List AV := [.fz 1 (ints .u8 l), .int p, .int e]
def R (l : List Int) (p : Nat) (e : Int) : Blk := ⟨3, true, [.agg [.fz 1 (ints .u8 l), .int p, .int e]]⟩
theorem take_dead (l : List Int) (p : Nat) (e : Int) (n : Int) (he : e ≠ 0) : CSpec Try.prog 118 [R l p e] [.ref 0 0 0, .int n] [some (R l p e)] (.fz 1 (ints .u8 [])) := by
 refine CSpec.body Try.func118 rfl rfl rfl rfl rfl fun Q hQ => ?_
 refine T.seq fun K1 hK1 => ?_
 refine T.region ?_ -- region 0
 refine ro rfl rfl (OpOk.step (ok_move (.inr rfl))) ?_
 refine ro_nil ?_
 refine keepK hK1 [0, 1] (by dsimp) (by dsimp) ?_
 refine T.seq fun K2 hK2 => ?_
 refine T.seq fun K3 hK3 => ?_
 refine T.drawH mixed [] ?_ -- region 1
 refine any_take 0 rfl (by first | rfl | decide +kernel) rfl (HeldL.refl _) (fun H' hH => OpOk.step (ok_move (.inl rfl))) ?_
 refine any_take 1 rfl (by first | rfl | decide +kernel) rfl (HeldL.refl _) (fun H' hH => OpOk.step (ok_nilCheck rfl rfl)) ?_
 refine any_take 2 rfl (by first | rfl | decide +kernel) rfl (HeldL.refl _) (fun H' hH => OpOk.step (ok_fieldAddr rfl ti_pack_Reader rfl rfl ti_api_Errno (by decide) rfl)) ?_
 refine any_take 3 rfl (by first | rfl | decide +kernel) rfl (HeldL.refl _) (fun H' hH => OpOk.step (ok_load rfl ti_api_Errno (locA_held hH rfl) rfl)) ?_
 refine any_take 4 rfl (by first | rfl | decide +kernel) rfl (HeldL.refl _) (fun H' hH => OpOk.step (OpOk.bool (d := false) (ok_binOp rfl ti_api_Errno rfl) (by simp [he]))) ?_
 refine any_take 5 rfl (by first | rfl | decide +kernel) rfl (HeldL.refl _) (fun H' hH => OpOk.step (ok_moveb (c := false) (.inl rfl) rfl)) ?_
 refine any_skip 6 rfl (by first | rfl | decide +kernel) rfl (HeldL.refl _) ?_
 refine any_skip 7 rfl (by first | rfl | decide +kernel) rfl (HeldL.refl _) ?_
 refine any_skip 8 rfl (by first | rfl | decide +kernel) rfl (HeldL.refl _) ?_
 refine any_skip 9 rfl (by first | rfl | decide +kernel) rfl (HeldL.refl _) ?_
 refine any_skip 10 rfl (by first | rfl | decide +kernel) rfl (HeldL.refl _) ?_
 refine any_skip 11 rfl (by first | rfl | decide +kernel) rfl (HeldL.refl _) ?_
 refine any_skip 12 rfl (by first | rfl | decide +kernel) rfl (HeldL.refl _) ?_
 refine any_skip 13 rfl (by first | rfl | decide +kernel) rfl (HeldL.refl _) ?_
 refine any_skip 14 rfl (by first | rfl | decide +kernel) rfl (HeldL.refl _) ?_
 refine any_skip 15 rfl (by first | rfl | decide +kernel) rfl (HeldL.refl _) ?_
 refine any_skip 16 rfl (by first | rfl | decide +kernel) rfl (HeldL.refl _) ?_
 refine any_skip 17 rfl (by first | rfl | decide +kernel) rfl (HeldL.refl _) ?_
 refine any_take 18 rfl (by first | rfl | decide +kernel) rfl (HeldL.refl _) (fun H' hH => OpOk.step (ok_pickb (t := false) (d := false) rfl rfl rfl)) ?_
 refine any_done rfl ?_
 refine keepK hK3 [0, 1, 23] (by dsimp) (by dsimp) ?_
 refine T.cond_false rfl ?_
 refine T.skip ?_
 refine keepK hK2 [0, 1] (by dsimp) (by dsimp) ?_
 refine T.seq fun K4 hK4 => ?_
 refine T.seq fun K5 hK5 => ?_
 refine T.region ?_ -- region 3
 refine ro rfl rfl (OpOk.step (ok_move (.inl rfl))) ?_
 refine ro rfl rfl (OpOk.step (ok_nilCheck rfl rfl)) ?_
 refine ro rfl rfl (OpOk.step (ok_fieldAddr rfl ti_pack_Reader rfl rfl ti_api_Errno (by decide) rfl)) ?_
 refine ro rfl rfl (OpOk.step (ok_load rfl ti_api_Errno rfl rfl)) ?_
 refine ro rfl rfl (OpOk.step (OpOk.bool (d := true) (ok_binOp rfl ti_api_Errno rfl) (by simp [he]))) ?_
 refine ro_nil ?_
 refine keepK hK5 [0, 1, 31] (by dsimp) (by dsimp) ?_
 refine T.cond_true rfl ?_
 refine T.seq fun K6 hK6 => ?_
 refine T.region ?_ -- region 4
 refine ro rfl rfl (OpOk.step (ok_move (.inr rfl))) ?_
 refine ro_nil ?_
 refine keepK hK6 [4] (by dsimp) (by dsimp) ?_
 refine T.ret (hQ _ _ _ rfl ?_).1 -- ret 1
 exact ((TEnt.put1 0 (Ent.nil 1)).trans (TEnt.toH rfl ⟨rfl, trivial⟩))
theorem take_short (l : List Int) (p n : Nat) (hn : l.length < p + n) (hp : p ≤ l.length) (hl : l.length ≤ 140737488355328) : CSpec Try.prog 118 [R l p 0] [.ref 0 0 0, .int n] [some (R l p 14)] (.fz 1 (ints .u8 [])) := by
 refine CSpec.body Try.func118 rfl rfl rfl rfl rfl fun Q hQ => ?_
 refine T.seq fun K1 hK1 => ?_
 refine T.region ?_ -- region 0
 refine ro rfl rfl (OpOk.step (ok_move (.inr rfl))) ?_
 refine ro_nil ?_
 refine keepK hK1 [0, 1] (by dsimp) (by dsimp) ?_
 refine T.seq fun K2 hK2 => ?_
 refine T.seq fun K3 hK3 => ?_
 refine T.drawH mixed [] ?_ -- region 1
 refine any_take 0 rfl (by first | rfl | decide +kernel) rfl (HeldL.refl _) (fun H' hH => OpOk.step (ok_move (.inl rfl))) ?_
 refine any_take 1 rfl (by first | rfl | decide +kernel) rfl (HeldL.refl _) (fun H' hH => OpOk.step (ok_nilCheck rfl rfl)) ?_
 refine any_take 2 rfl (by first | rfl | decide +kernel) rfl (HeldL.refl _) (fun H' hH => OpOk.step (ok_fieldAddr rfl ti_pack_Reader rfl rfl ti_api_Errno (by decide) rfl)) ?_
 refine any_take 3 rfl (by first | rfl | decide +kernel) rfl (HeldL.refl _) (fun H' hH => OpOk.step (ok_load rfl ti_api_Errno (locA_held hH rfl) rfl)) ?_
 refine any_take 4 rfl (by first | rfl | decide +kernel) rfl (HeldL.refl _) (fun H' hH => OpOk.step (OpOk.bool (d := true) (ok_binOp rfl ti_api_Errno rfl) (by simp))) ?_
 refine any_take 5 rfl (by first | rfl | decide +kernel) rfl (HeldL.refl _) (fun H' hH => OpOk.step (ok_moveb (c := true) (.inl rfl) rfl)) ?_
 refine any_take 6 rfl (by first | rfl | decide +kernel) rfl (HeldL.refl _) (fun H' hH => OpOk.step (ok_move (.inl rfl))) ?_
 refine any_take 7 rfl (by first | rfl | decide +kernel) rfl (HeldL.refl _) (fun H' hH => OpOk.step (ok_move (.inl rfl))) ?_
 refine any_take 8 rfl (by first | rfl | decide +kernel) rfl (HeldL.refl _) (fun H' hH => OpOk.step (ok_nilCheck rfl rfl)) ?_
 refine any_take 9 rfl (by first | rfl | decide +kernel) rfl (HeldL.refl _) (fun H' hH => OpOk.step (ok_fieldAddr rfl ti_pack_Reader rfl rfl ti_Luint8 (by decide) rfl)) ?_
 refine any_take 10 rfl (by first | rfl | decide +kernel) rfl (HeldL.refl _) (fun H' hH => OpOk.step (ok_load rfl ti_Luint8 (locA_held hH rfl) rfl)) ?_
 refine any_take 11 rfl (by first | rfl | decide +kernel) rfl (HeldL.refl _) (fun H' hH => OpOk.step ((ok_len rfl rfl ti_Luint8 rfl).eq (x' := .int l.length) (by rw [ints_length]) rfl)) ?_
 refine any_take 12 rfl (by first | rfl | decide +kernel) rfl (HeldL.refl _) (fun H' hH => OpOk.step (ok_move (.inl rfl))) ?_
 refine any_take 13 rfl (by first | rfl | decide +kernel) rfl (HeldL.refl _) (fun H' hH => OpOk.step (ok_nilCheck rfl rfl)) ?_
 refine any_take 14 rfl (by first | rfl | decide +kernel) rfl (HeldL.refl _) (fun H' hH => OpOk.step (ok_fieldAddr rfl ti_pack_Reader rfl rfl ti_int (by decide) rfl)) ?_
 refine any_take 15 rfl (by first | rfl | decide +kernel) rfl (HeldL.refl _) (fun H' hH => OpOk.step (ok_load rfl ti_int (locA_held hH rfl) rfl)) ?_
 refine any_take 16 rfl (by first | rfl | decide +kernel) rfl (HeldL.refl _) (fun H' hH => OpOk.step (ok_sub64 rfl ti_int rfl rfl (by omega) (by omega))) ?_
 refine any_take 17 rfl (by first | rfl | decide +kernel) rfl (HeldL.refl _) (fun H' hH => OpOk.step (OpOk.bool (d := true) (ok_binOp rfl ti_int rfl) (by simp; omega))) ?_
 refine any_take 18 rfl (by first | rfl | decide +kernel) rfl (HeldL.refl _) (fun H' hH => OpOk.step (ok_pickb (t := true) (d := true) rfl rfl rfl)) ?_
 refine any_done rfl ?_
 refine keepK hK3 [0, 1, 23] (by dsimp) (by dsimp) ?_
 refine T.cond_true rfl ?_
 refine T.region ?_ -- region 2
 refine ro rfl rfl (OpOk.step (ok_move (.inl rfl))) ?_
 refine ro rfl rfl (OpOk.step (ok_nilCheck rfl rfl)) ?_
 refine ro rfl rfl (OpOk.step (ok_fieldAddr rfl ti_pack_Reader rfl rfl ti_api_Errno (by decide) rfl)) ?_
 refine ro rfl rfl (OpOk.step (ok_store rfl ti_api_Errno (by decide) rfl rfl rfl rfl rfl (by first | exact Nat.le_of_ble_eq_true rfl | simp) (by first | exact .inl ⟨rfl, rfl⟩ | exact .inr rfl))) ?_
 refine ro_nil ?_
 refine keepK hK2 [0, 1] (by dsimp) (by dsimp) ?_
 refine T.seq fun K4 hK4 => ?_
 refine T.seq fun K5 hK5 => ?_
 refine T.region ?_ -- region 3
 refine ro rfl rfl (OpOk.step (ok_move (.inl rfl))) ?_
 refine ro rfl rfl (OpOk.step (ok_nilCheck rfl rfl)) ?_
 refine ro rfl rfl (OpOk.step (ok_fieldAddr rfl ti_pack_Reader rfl rfl ti_api_Errno (by decide) rfl)) ?_
 refine ro rfl rfl (OpOk.step (ok_load rfl ti_api_Errno rfl rfl)) ?_
 refine ro rfl rfl (OpOk.step (OpOk.bool (d := true) (ok_binOp rfl ti_api_Errno rfl) (by simp))) ?_
 refine ro_nil ?_
 refine keepK hK5 [0, 1, 31] (by dsimp) (by dsimp) ?_
 refine T.cond_true rfl ?_
 refine T.seq fun K6 hK6 => ?_
 refine T.region ?_ -- region 4
 refine ro rfl rfl (OpOk.step (ok_move (.inr rfl))) ?_
 refine ro_nil ?_
 refine keepK hK6 [4] (by dsimp) (by dsimp) ?_
 refine T.ret (hQ _ _ _ rfl ?_).1 -- ret 1
 exact ((TEnt.put1 0 (Ent.nil 1)).trans (TEnt.toH rfl ⟨rfl, trivial⟩))
theorem take_good (l : List Int) (p n : Nat) (hn : p + n ≤ l.length) (hl : l.length ≤ 140737488355328) : CSpec Try.prog 118 [R l p 0] [.ref 0 0 0, .int n] [some (R l (p + n) 0)] (.fz 1 (ints .u8 ((l.drop p).take n))) := by
 refine CSpec.body Try.func118 rfl rfl rfl rfl rfl fun Q hQ => ?_
 refine T.seq fun K1 hK1 => ?_
 refine T.region ?_ -- region 0
 refine ro rfl rfl (OpOk.step (ok_move (.inr rfl))) ?_
 refine ro_nil ?_
 refine keepK hK1 [0, 1] (by dsimp) (by dsimp) ?_
 refine T.seq fun K2 hK2 => ?_
 refine T.seq fun K3 hK3 => ?_
 refine T.drawH mixed [] ?_ -- region 1
 refine any_take 0 rfl (by first | rfl | decide +kernel) rfl (HeldL.refl _) (fun H' hH => OpOk.step (ok_move (.inl rfl))) ?_
 refine any_take 1 rfl (by first | rfl | decide +kernel) rfl (HeldL.refl _) (fun H' hH => OpOk.step (ok_nilCheck rfl rfl)) ?_
 refine any_take 2 rfl (by first | rfl | decide +kernel) rfl (HeldL.refl _) (fun H' hH => OpOk.step (ok_fieldAddr rfl ti_pack_Reader rfl rfl ti_api_Errno (by decide) rfl)) ?_
 refine any_take 3 rfl (by first | rfl | decide +kernel) rfl (HeldL.refl _) (fun H' hH => OpOk.step (ok_load rfl ti_api_Errno (locA_held hH rfl) rfl)) ?_
 refine any_take 4 rfl (by first | rfl | decide +kernel) rfl (HeldL.refl _) (fun H' hH => OpOk.step (OpOk.bool (d := true) (ok_binOp rfl ti_api_Errno rfl) (by simp))) ?_
 refine any_take 5 rfl (by first | rfl | decide +kernel) rfl (HeldL.refl _) (fun H' hH => OpOk.step (ok_moveb (c := true) (.inl rfl) rfl)) ?_
 refine any_take 6 rfl (by first | rfl | decide +kernel) rfl (HeldL.refl _) (fun H' hH => OpOk.step (ok_move (.inl rfl))) ?_
 refine any_take 7 rfl (by first | rfl | decide +kernel) rfl (HeldL.refl _) (fun H' hH => OpOk.step (ok_move (.inl rfl))) ?_
 refine any_take 8 rfl (by first | rfl | decide +kernel) rfl (HeldL.refl _) (fun H' hH => OpOk.step (ok_nilCheck rfl rfl)) ?_
 refine any_take 9 rfl (by first | rfl | decide +kernel) rfl (HeldL.refl _) (fun H' hH => OpOk.step (ok_fieldAddr rfl ti_pack_Reader rfl rfl ti_Luint8 (by decide) rfl)) ?_
 refine any_take 10 rfl (by first | rfl | decide +kernel) rfl (HeldL.refl _) (fun H' hH => OpOk.step (ok_load rfl ti_Luint8 (locA_held hH rfl) rfl)) ?_
 refine any_take 11 rfl (by first | rfl | decide +kernel) rfl (HeldL.refl _) (fun H' hH => OpOk.step ((ok_len rfl rfl ti_Luint8 rfl).eq (x' := .int l.length) (by rw [ints_length]) rfl)) ?_
 refine any_take 12 rfl (by first | rfl | decide +kernel) rfl (HeldL.refl _) (fun H' hH => OpOk.step (ok_move (.inl rfl))) ?_
 refine any_take 13 rfl (by first | rfl | decide +kernel) rfl (HeldL.refl _) (fun H' hH => OpOk.step (ok_nilCheck rfl rfl)) ?_
 refine any_take 14 rfl (by first | rfl | decide +kernel) rfl (HeldL.refl _) (fun H' hH => OpOk.step (ok_fieldAddr rfl ti_pack_Reader rfl rfl ti_int (by decide) rfl)) ?_
 refine any_take 15 rfl (by first | rfl | decide +kernel) rfl (HeldL.refl _) (fun H' hH => OpOk.step (ok_load rfl ti_int (locA_held hH rfl) rfl)) ?_
 refine any_take 16 rfl (by first | rfl | decide +kernel) rfl (HeldL.refl _) (fun H' hH => OpOk.step (ok_sub64 rfl ti_int rfl rfl (by omega) (by omega))) ?_
 refine any_take 17 rfl (by first | rfl | decide +kernel) rfl (HeldL.refl _) (fun H' hH => OpOk.step (OpOk.bool (d := false) (ok_binOp rfl ti_int rfl) (by simp; omega))) ?_
 refine any_take 18 rfl (by first | rfl | decide +kernel) rfl (HeldL.refl _) (fun H' hH => OpOk.step (ok_pickb (t := true) (d := false) rfl rfl rfl)) ?_
 refine any_done rfl ?_
 refine keepK hK3 [0, 1, 23] (by dsimp) (by dsimp) ?_
 refine T.cond_false rfl ?_
 refine T.skip ?_
 refine keepK hK2 [0, 1] (by dsimp) (by dsimp) ?_
 refine T.seq fun K4 hK4 => ?_
 refine T.seq fun K5 hK5 => ?_
 refine T.region ?_ -- region 3
 refine ro rfl rfl (OpOk.step (ok_move (.inl rfl))) ?_
 refine ro rfl rfl (OpOk.step (ok_nilCheck rfl rfl)) ?_
 refine ro rfl rfl (OpOk.step (ok_fieldAddr rfl ti_pack_Reader rfl rfl ti_api_Errno (by decide) rfl)) ?_
 refine ro rfl rfl (OpOk.step (ok_load rfl ti_api_Errno rfl rfl)) ?_
 refine ro rfl rfl (OpOk.step (OpOk.bool (d := false) (ok_binOp rfl ti_api_Errno rfl) (by simp))) ?_
 refine ro_nil ?_
 refine keepK hK5 [0, 1, 31] (by dsimp) (by dsimp) ?_
 refine T.cond_false rfl ?_
 refine T.skip ?_
 refine keepK hK4 [0, 1] (by dsimp) (by dsimp) ?_
 refine T.seq fun K6 hK6 => ?_
 refine T.region ?_ -- region 5
 refine ro rfl rfl (OpOk.step (ok_move (.inl rfl))) ?_
 refine ro rfl rfl (OpOk.step (ok_nilCheck rfl rfl)) ?_
 refine ro rfl rfl (OpOk.step (ok_fieldAddr rfl ti_pack_Reader rfl rfl ti_int (by decide) rfl)) ?_
 refine ro rfl rfl (OpOk.step (ok_load rfl ti_int rfl rfl)) ?_
 refine ro rfl rfl (OpOk.step (ok_move (.inl rfl))) ?_
 refine ro rfl rfl (OpOk.step (ok_add64 rfl ti_int rfl rfl (by omega) (by omega))) ?_
 refine ro rfl rfl (OpOk.step (ok_nilCheck rfl rfl)) ?_
 refine ro rfl rfl (OpOk.step (ok_fieldAddr rfl ti_pack_Reader rfl rfl ti_int (by decide) rfl)) ?_
 refine ro rfl rfl (OpOk.step (ok_store rfl ti_int (by decide) rfl rfl rfl rfl rfl (by first | exact Nat.le_of_ble_eq_true rfl | simp) (by first | exact .inl ⟨rfl, rfl⟩ | exact .inr rfl))) ?_
 refine ro_nil ?_
 refine keepK hK6 [0, 1] (by dsimp) (by dsimp) ?_
 refine T.seq fun K7 hK7 => ?_
 refine T.drawH mixed [] ?_ -- region 6
 refine any_take 0 rfl (by first | rfl | decide +kernel) rfl (HeldL.refl _) (fun H' hH => OpOk.step (ok_move (.inl rfl))) ?_
 refine any_take 1 rfl (by first | rfl | decide +kernel) rfl (HeldL.refl _) (fun H' hH => OpOk.step (ok_nilCheck rfl rfl)) ?_
 refine any_take 2 rfl (by first | rfl | decide +kernel) rfl (HeldL.refl _) (fun H' hH => OpOk.step (ok_fieldAddr rfl ti_pack_Reader rfl rfl ti_Luint8 (by decide) rfl)) ?_
 refine any_take 3 rfl (by first | rfl | decide +kernel) rfl (HeldL.refl _) (fun H' hH => OpOk.step (ok_load rfl ti_Luint8 (locA_held hH rfl) rfl)) ?_
 refine any_take 4 rfl (by first | rfl | decide +kernel) rfl (HeldL.refl _) (fun H' hH => OpOk.step (ok_move (.inl rfl))) ?_
 refine any_take 5 rfl (by first | rfl | decide +kernel) rfl (HeldL.refl _) (fun H' hH => OpOk.step (ok_nilCheck rfl rfl)) ?_
 refine any_take 6 rfl (by first | rfl | decide +kernel) rfl (HeldL.refl _) (fun H' hH => OpOk.step (ok_fieldAddr rfl ti_pack_Reader rfl rfl ti_int (by decide) rfl)) ?_
 refine any_take 7 rfl (by first | rfl | decide +kernel) rfl (HeldL.refl _) (fun H' hH => OpOk.step (ok_load rfl ti_int (locA_held hH rfl) rfl)) ?_
 refine any_take 8 rfl (by first | rfl | decide +kernel) rfl (HeldL.refl _) (fun H' hH => OpOk.step (ok_move (.inl rfl))) ?_
 refine any_take 9 rfl (by first | rfl | decide +kernel) rfl (HeldL.refl _) (fun H' hH => OpOk.step ((ok_sub64 rfl ti_int rfl rfl (by omega) (by omega)).eq (x' := .int p) (by refine congrArg AV.int ?_; omega) rfl)) ?_
 refine any_take 10 rfl (by first | rfl | decide +kernel) rfl (HeldL.refl _) (fun H' hH => OpOk.step (ok_move (.inl rfl))) ?_
 refine any_take 11 rfl (by first | rfl | decide +kernel) rfl (HeldL.refl _) (fun H' hH => OpOk.step (ok_nilCheck rfl rfl)) ?_
 refine any_take 12 rfl (by first | rfl | decide +kernel) rfl (HeldL.refl _) (fun H' hH => OpOk.step (ok_fieldAddr rfl ti_pack_Reader rfl rfl ti_int (by decide) rfl)) ?_
 refine any_take 13 rfl (by first | rfl | decide +kernel) rfl (HeldL.refl _) (fun H' hH => OpOk.step (ok_load rfl ti_int (locA_held hH rfl) rfl)) ?_
 refine any_take 14 rfl (by first | rfl | decide +kernel) rfl (HeldL.refl _) (fun H' hH => OpOk.step ((ok_slice rfl ti_Luint8 (.inl ⟨_, _, rfl, ti_uint8, rfl⟩) (zl := some (p : Int)) (zh := some ((p : Int) + (n : Int))) rfl rfl rfl (r := .fz 1 (ints .u8 ((l.drop p).take n))) (sliceA_held hH (by
  have h1 : ((p : Int) + (n : Int)).toNat = p + n := by omega
  have h2 : (p : Int) + (n : Int) ≤ l.length := by omega
  have h3 : (p : Int) ≤ (p : Int) + (n : Int) := by omega
  simp [sliceA, h1, h2, h3, ints, List.drop_take]))))) ?_
 refine any_take 15 rfl (by first | rfl | decide +kernel) rfl (HeldL.refl _) (fun H' hH => OpOk.step (ok_move (.inr rfl))) ?_
 refine any_done rfl ?_
 refine keepK hK7 [4] (by dsimp) (by dsimp) ?_
 refine T.ret (hQ _ _ _ rfl ?_).1 -- ret 1
 exact TEnt.fin [0] (by decide) (by simp) (by simp [normH, hget, R, Blk.ren, renL, AV.ren, renL_ints]) ⟨by simp [tupA, AV.ren, renL_ints], trivial⟩
theorem wrap64_mod (n : Int) : IntKind.i64.wrap n % 18446744073709551616 = n % 18446744073709551616 := by
  simp [IntKind.wrap, IntKind.bits, IntKind.signed]
  split <;> omega
theorem or64 (a b m : Nat) (ha : a < 2 ^ m) (hb : a + b * 2 ^ m < 18446744073709551616) : Go.bits .or .i64 (IntKind.i64.wrap a) (IntKind.i64.wrap (b * 2 ^ m : Nat)) = IntKind.i64.wrap (a + b * 2 ^ m : Nat) := by
  have h1 : (IntKind.i64.wrap (a : Int) % 18446744073709551616).toNat = a := by rw [wrap64_mod]; omega
  have h2 : (IntKind.i64.wrap ((b * 2 ^ m : Nat) : Int) % 18446744073709551616).toNat = b * 2 ^ m := by
    rw [wrap64_mod]
    generalize b * 2 ^ m = c at hb
    omega
  have e : ((2 ^ IntKind.i64.bits : Nat) : Int) = 18446744073709551616 := by decide
  have h3 : a ||| b * 2 ^ m = a + b * 2 ^ m := by
    rw [Nat.or_comm, Nat.mul_comm b, ← Nat.two_pow_add_eq_or_of_lt ha, Nat.add_comm]
  simp only [Go.bits, BitVec.toNat_or, BitVec.toNat_ofInt, e, h1, h2, h3]
/-- A number out of its bytes, the lowest first. -/
def num (l : List Int) : Nat → Nat
  | 0 => 0
  | i + 1 => num l i + (l.getD i 0).toNat * 2 ^ (8 * i)
theorem num_lt {l : List Int} (h : ∀ i, (l.getD i 0).toNat < 256) : ∀ i, num l i < 2 ^ (8 * i)
  | 0 => by simp [num]
  | i + 1 => by
    have ih := num_lt h i
    have hb := h i
    have e : 2 ^ (8 * (i + 1)) = 256 * 2 ^ (8 * i) := by rw [Nat.mul_add, Nat.pow_add]; omega
    have : (l.getD i 0).toNat * 2 ^ (8 * i) ≤ 255 * 2 ^ (8 * i) := Nat.mul_le_mul_right _ (by omega)
    simp only [num]
    omega
theorem pk_byte {l : List Int} (h : Bytes l) (i : Nat) : 0 ≤ l.getD i 0 ∧ l.getD i 0 < 256 := by
  rw [List.getD_eq_getElem?_getD]
  cases hi : l[i]? with
  | none => simp
  | some c => exact h c (List.mem_of_getElem? hi)
theorem pk_nat {l : List Int} (h : Bytes l) (i : Nat) : (l.getD i 0).toNat < 256 := by have := pk_byte h i; omega
/-- The eight bytes at a place, as a number. -/
def val8 (l : List Int) (p : Nat) : Int := IntKind.i64.wrap (num ((l.drop p).take 8) 8 : Nat)
theorem pass0 {l : List Int} {p : Nat} {e : Int} {H : Heap} (l' : List Int) (p' : Nat) (e' : Int) : mergeH [some (R l p e)] [0] [some (R l' p' e')] = [some (R l' p' e')] := by
  simp [mergeH, setIds, renH, R, Blk.ren, renL, AV.ren, renL_ints]
theorem normR (l : List Int) (p : Nat) (e : Int) : normH [0] [some (R l p e)] = [some (R l p e)] := by
  simp [normH, hget, R, Blk.ren, renL, AV.ren, renL_ints]
theorem int_dead (l : List Int) (p : Nat) (e : Int) (a b : Int) (he : e ≠ 0) : CSpec Try.prog 76 [R l p e] [.ref 0 0 0, .int a, .int b] [some (R l p e)] (.int 0) := by
 refine CSpec.body Try.func76 rfl rfl rfl rfl rfl fun Q hQ => ?_
 refine T.seq fun K1 hK1 => ?_
 refine T.region ?_ -- region 0
 refine ro rfl rfl (OpOk.step (ok_move (.inr rfl))) ?_
 refine ro_nil ?_
 refine keepK hK1 [0, 1, 2] (by dsimp) (by dsimp) ?_
 refine T.seq fun K2 hK2 => ?_
 refine T.seq fun K3 hK3 => ?_
 refine T.region ?_ -- region 1
 refine ro rfl rfl (OpOk.step (ok_move (.inl rfl))) ?_
 refine ro rfl rfl (OpOk.step (OpOk.bool (d := false) (ok_binOp rfl ti_Ppack_Reader rfl) (rfl))) ?_
 refine ro_nil ?_
 refine keepK hK3 [0, 1, 2, 11] (by dsimp) (by dsimp) ?_
 refine T.cond_false rfl ?_
 refine T.skip ?_
 refine keepK hK2 [0, 1, 2] (by dsimp) (by dsimp) ?_
 refine T.seq fun K4 hK4 => ?_
 refine T.region ?_ -- region 3
 refine ro rfl rfl (OpOk.step (ok_move (.inl rfl))) ?_
 refine ro rfl rfl (ok_call rfl rfl rfl (((take_dead l p e 8 he).pass [0] (by decide) (by simp) (normR _ _ _) rfl).eq (x' := .fz 1 (ints .u8 [])) (H'' := [some (R l p e)]) rfl (pass0 (H := []) _ _ _))) ?_
 refine ro rfl rfl (OpOk.step (ok_move (.inr rfl))) ?_
 refine ro_nil ?_
 refine keepK hK4 [0, 1, 2, 7] (by dsimp) (by dsimp) ?_
 refine T.seq fun K5 hK5 => ?_
 refine T.seq fun K6 hK6 => ?_
 refine T.region ?_ -- region 4
 refine ro rfl rfl (OpOk.step (ok_move (.inl rfl))) ?_
 refine ro rfl rfl (OpOk.step (ok_nilCheck rfl rfl)) ?_
 refine ro rfl rfl (OpOk.step (ok_fieldAddr rfl ti_pack_Reader rfl rfl ti_api_Errno (by decide) rfl)) ?_
 refine ro rfl rfl (OpOk.step (ok_load rfl ti_api_Errno rfl rfl)) ?_
 refine ro rfl rfl (OpOk.step (OpOk.bool (d := true) (ok_binOp rfl ti_api_Errno rfl) (by simp [he]))) ?_
 refine ro_nil ?_
 refine keepK hK6 [0, 1, 2, 7, 18] (by dsimp) (by dsimp) ?_
 refine T.cond_true rfl ?_
 refine T.seq fun K7 hK7 => ?_
 refine T.region ?_ -- region 5
 refine ro rfl rfl (OpOk.step (ok_move (.inr rfl))) ?_
 refine ro_nil ?_
 refine keepK hK7 [6] (by dsimp) (by dsimp) ?_
 refine T.ret (hQ _ _ _ rfl ?_).1 -- ret 1
 exact TEnt.toH rfl ⟨rfl, trivial⟩
theorem int_short (l : List Int) (p : Nat) (a b : Int) (hn : l.length < p + 8) (hp : p ≤ l.length) (hl : l.length ≤ 140737488355328) : CSpec Try.prog 76 [R l p 0] [.ref 0 0 0, .int a, .int b] [some (R l p 14)] (.int 0) := by
 refine CSpec.body Try.func76 rfl rfl rfl rfl rfl fun Q hQ => ?_
 refine T.seq fun K1 hK1 => ?_
 refine T.region ?_ -- region 0
 refine ro rfl rfl (OpOk.step (ok_move (.inr rfl))) ?_
 refine ro_nil ?_
 refine keepK hK1 [0, 1, 2] (by dsimp) (by dsimp) ?_
 refine T.seq fun K2 hK2 => ?_
 refine T.seq fun K3 hK3 => ?_
 refine T.region ?_ -- region 1
 refine ro rfl rfl (OpOk.step (ok_move (.inl rfl))) ?_
 refine ro rfl rfl (OpOk.step (OpOk.bool (d := false) (ok_binOp rfl ti_Ppack_Reader rfl) (rfl))) ?_
 refine ro_nil ?_
 refine keepK hK3 [0, 1, 2, 11] (by dsimp) (by dsimp) ?_
 refine T.cond_false rfl ?_
 refine T.skip ?_
 refine keepK hK2 [0, 1, 2] (by dsimp) (by dsimp) ?_
 refine T.seq fun K4 hK4 => ?_
 refine T.region ?_ -- region 3
 refine ro rfl rfl (OpOk.step (ok_move (.inl rfl))) ?_
 refine ro rfl rfl (ok_call rfl rfl rfl (((take_short l p 8 hn hp hl).pass [0] (by decide) (by simp) (normR _ _ _) rfl).eq (x' := .fz 1 (ints .u8 [])) (H'' := [some (R l p 14)]) rfl (pass0 (H := []) _ _ _))) ?_
 refine ro rfl rfl (OpOk.step (ok_move (.inr rfl))) ?_
 refine ro_nil ?_
 refine keepK hK4 [0, 1, 2, 7] (by dsimp) (by dsimp) ?_
 refine T.seq fun K5 hK5 => ?_
 refine T.seq fun K6 hK6 => ?_
 refine T.region ?_ -- region 4
 refine ro rfl rfl (OpOk.step (ok_move (.inl rfl))) ?_
 refine ro rfl rfl (OpOk.step (ok_nilCheck rfl rfl)) ?_
 refine ro rfl rfl (OpOk.step (ok_fieldAddr rfl ti_pack_Reader rfl rfl ti_api_Errno (by decide) rfl)) ?_
 refine ro rfl rfl (OpOk.step (ok_load rfl ti_api_Errno rfl rfl)) ?_
 refine ro rfl rfl (OpOk.step (OpOk.bool (d := true) (ok_binOp rfl ti_api_Errno rfl) (by simp))) ?_
 refine ro_nil ?_
 refine keepK hK6 [0, 1, 2, 7, 18] (by dsimp) (by dsimp) ?_
 refine T.cond_true rfl ?_
 refine T.seq fun K7 hK7 => ?_
 refine T.region ?_ -- region 5
 refine ro rfl rfl (OpOk.step (ok_move (.inr rfl))) ?_
 refine ro_nil ?_
 refine keepK hK7 [6] (by dsimp) (by dsimp) ?_
 refine T.ret (hQ _ _ _ rfl ?_).1 -- ret 1
 exact TEnt.toH rfl ⟨rfl, trivial⟩
theorem int_good (l : List Int) (p : Nat) (a b : Int) (hB : Bytes l) (hn : p + 8 ≤ l.length) (hl : l.length ≤ 140737488355328) : CSpec Try.prog 76 [R l p 0] [.ref 0 0 0, .int a, .int b] [some (R l (p + 8) (if val8 l p < a ∨ b < val8 l p then 13 else 0))] (.int (if val8 l p < a ∨ b < val8 l p then 0 else val8 l p)) := by
 obtain ⟨r, hr⟩ : ∃ r, (l.drop p).take 8 = r := ⟨_, rfl⟩
 have hrl : r.length = 8 := by rw [← hr]; simp; omega
 have hrB : Bytes r := fun x hx => hB x (List.mem_of_mem_drop (List.mem_of_mem_take (hr ▸ hx)))
 have hv8 : val8 l p = IntKind.i64.wrap (num r 8 : Nat) := by unfold val8; rw [hr]
 refine CSpec.body Try.func76 rfl rfl rfl rfl rfl fun Q hQ => ?_
 refine T.seq fun K1 hK1 => ?_
 refine T.region ?_ -- region 0
 refine ro rfl rfl (OpOk.step (ok_move (.inr rfl))) ?_
 refine ro_nil ?_
 refine keepK hK1 [0, 1, 2] (by dsimp) (by dsimp) ?_
 refine T.seq fun K2 hK2 => ?_
 refine T.seq fun K3 hK3 => ?_
 refine T.region ?_ -- region 1
 refine ro rfl rfl (OpOk.step (ok_move (.inl rfl))) ?_
 refine ro rfl rfl (OpOk.step (OpOk.bool (d := false) (ok_binOp rfl ti_Ppack_Reader rfl) (rfl))) ?_
 refine ro_nil ?_
 refine keepK hK3 [0, 1, 2, 11] (by dsimp) (by dsimp) ?_
 refine T.cond_false rfl ?_
 refine T.skip ?_
 refine keepK hK2 [0, 1, 2] (by dsimp) (by dsimp) ?_
 refine T.seq fun K4 hK4 => ?_
 refine T.region ?_ -- region 3
 refine ro rfl rfl (OpOk.step (ok_move (.inl rfl))) ?_
 refine ro rfl rfl (ok_call rfl rfl rfl (((take_good l p 8 hn hl).pass [0] (by decide) (by simp) (normR _ _ _) rfl).eq (x' := .fz 1 (ints .u8 r)) (H'' := [some (R l (p + 8) 0)]) (by rw [hr]; simp [AV.ren, renL_ints]) (pass0 (H := []) _ _ _))) ?_
 refine ro rfl rfl (OpOk.step (ok_move (.inr rfl))) ?_
 refine ro_nil ?_
 refine keepK hK4 [0, 1, 2, 7] (by dsimp) (by dsimp) ?_
 refine T.seq fun K5 hK5 => ?_
 refine T.seq fun K6 hK6 => ?_
 refine T.region ?_ -- region 4
 refine ro rfl rfl (OpOk.step (ok_move (.inl rfl))) ?_
 refine ro rfl rfl (OpOk.step (ok_nilCheck rfl rfl)) ?_
 refine ro rfl rfl (OpOk.step (ok_fieldAddr rfl ti_pack_Reader rfl rfl ti_api_Errno (by decide) rfl)) ?_
 refine ro rfl rfl (OpOk.step (ok_load rfl ti_api_Errno rfl rfl)) ?_
 refine ro rfl rfl (OpOk.step (OpOk.bool (d := false) (ok_binOp rfl ti_api_Errno rfl) (by simp))) ?_
 refine ro_nil ?_
 refine keepK hK6 [0, 1, 2, 7, 18] (by dsimp) (by dsimp) ?_
 refine T.cond_false rfl ?_
 refine T.skip ?_
 refine keepK hK5 [0, 1, 2, 7] (by dsimp) (by dsimp) ?_
 refine T.seq fun K7 hK7 => ?_
 refine T.region ?_ -- region 6
 refine ro rfl rfl (OpOk.step (ok_move (.inr rfl))) ?_
 refine ro_nil ?_
 refine keepK hK7 [0, 1, 2, 7, 8] (by dsimp) (by dsimp) ?_
 refine T.seq fun K8 hK8 => ?_
 refine T.seq fun K9 hK9 => ?_
 refine T.region ?_ -- region 7
 refine ro rfl rfl (OpOk.step (ok_move (.inl rfl))) ?_
 refine ro_nil ?_
 refine keepK hK9 [0, 1, 2, 7, 8, 19] (by dsimp) (by dsimp) ?_
 refine T.block ?_
 refine T.loopI (ι := Nat) (fun i => i ≤ 8) (fun i => 8 - i) (fun i => ([(0, .ref 0 0 0), (1, .int a), (2, .int b), (7, .fz 1 (ints .u8 r)), (8, .int (IntKind.i64.wrap (num r i : Nat))), (19, .int i)], [some (R l (p + 8) 0)])) 0 (Nat.zero_le _) (TEnt.toH rfl ⟨rfl, rfl, rfl, rfl, rfl, rfl, trivial⟩) (fun i hi => ?_) -- loop 1
 refine T.seq fun K10 hK10 => ?_
 refine T.region ?_ -- region 8
 refine ro rfl rfl (OpOk.step (ok_binOp rfl ti_int rfl)) ?_
 refine ro_nil ?_
 refine keepK hK10 [0, 1, 2, 7, 8, 19, 20] (by dsimp) (by dsimp) ?_
 refine T.seq fun K11 hK11 => ?_
 refine T.cond rfl (fun hc => ?_) (fun hc => ?_) -- cond 1
 ·(try simp only [dE] at hc)
  have hi8 : i < 8 := by omega
  obtain ⟨c, hci⟩ : ∃ c, r[i]? = some c := ⟨_, List.getElem?_eq_getElem (by omega)⟩
  have hcd : r.getD i 0 = c := by rw [List.getD_eq_getElem?_getD, hci]; rfl
  have hcb := hrB c (List.mem_of_getElem? hci)
  obtain ⟨c, rfl⟩ := Int.eq_ofNat_of_zero_le hcb.1
  have hnum : num r (i + 1) = num r i + c * 2 ^ (8 * i) := by simp only [num, hcd]; rfl
  have hlt := num_lt (fun j => pk_nat hrB j) i
  have hlt1 := num_lt (fun j => pk_nat hrB j) (i + 1)
  have h64 : 2 ^ (8 * (i + 1)) ≤ 18446744073709551616 := Nat.le_trans (Nat.pow_le_pow_right (by decide) (by omega : 8 * (i + 1) ≤ 64)) (by decide)
  refine T.skip ?_
  refine keepK hK11 [0, 1, 2, 7, 8, 19] (by dsimp) (by dsimp) ?_
  refine T.seq fun K12 hK12 => ?_
  refine T.block ?_
  refine T.seq fun K13 hK13 => ?_
  refine T.region ?_ -- region 9
  refine ro rfl rfl (OpOk.step (ok_move (.inl rfl))) ?_
  refine ro rfl rfl (OpOk.step (ok_move (.inr rfl))) ?_
  refine ro_nil ?_
  refine keepK hK13 [0, 1, 2, 7, 8, 9, 19] (by dsimp) (by dsimp) ?_
  refine T.region ?_ -- region 10
  refine ro rfl rfl (OpOk.step (ok_move (.inl rfl))) ?_
  refine ro rfl rfl (OpOk.step (ok_move (.inl rfl))) ?_
  refine ro rfl rfl (OpOk.step (ok_move (.inl rfl))) ?_
  refine ro rfl rfl (OpOk.step (by exact ok_index_ints rfl ti_Luint8 rfl ti_uint8 rfl rfl rfl (by omega) hci)) ?_
  refine ro rfl rfl (OpOk.step (ok_load rfl ti_uint8 rfl rfl)) ?_
  refine ro rfl rfl (OpOk.step ((ok_conv_int rfl ti_uint8 ti_int rfl rfl).eq (x' := .int c) (by rw [wrap_i64 (by omega) (by omega)]) rfl)) ?_
  refine ro rfl rfl (OpOk.step (ok_move (.inl rfl))) ?_
  refine ro rfl rfl (OpOk.step ((ok_mul64 rfl ti_int rfl rfl (by omega) (by omega)).eq (x' := .int (8 * i : Nat)) rfl rfl)) ?_
  refine ro rfl rfl (OpOk.step ((ok_shl rfl ti_int (8 * i) rfl rfl (by show 8 * i ≤ 64; omega) (m := ((2 ^ (8 * i) : Nat) : Int)) (by simp)).eq (x' := .int (IntKind.i64.wrap (c * 2 ^ (8 * i) : Nat))) (by simp) rfl)) ?_
  refine ro rfl rfl (OpOk.step ((ok_bits .or rfl ti_int rfl rfl (.inr (.inl rfl))).eq (x' := .int (IntKind.i64.wrap (num r (i + 1) : Nat))) (by rw [hnum] at hlt1 ⊢; exact congrArg AV.int (or64 _ _ _ hlt (by omega))) rfl)) ?_
  refine ro rfl rfl (OpOk.step (ok_move (.inr rfl))) ?_
  refine ro_nil ?_
  refine keepK hK12 [0, 1, 2, 7, 8, 19] (by dsimp) (by dsimp) ?_
  refine T.region ?_ -- region 11
  refine ro rfl rfl (OpOk.step (ok_add64 rfl ti_int rfl rfl (by omega) (by omega))) ?_
  refine ro rfl rfl (OpOk.step (ok_move (.inl rfl))) ?_
  refine ro_nil ?_
  exact ⟨i + 1, by omega, by omega, TEnt.toH rfl ⟨rfl, rfl, rfl, rfl, rfl, rfl, trivial⟩⟩
 ·(try simp only [dE] at hc)
  have hi8 : i = 8 := by omega
  subst hi8
  rw [← hv8]
  generalize val8 l p = v at hQ ⊢
  refine T.exit ?_
  refine keepK hK8 [0, 1, 2, 8] (by dsimp) (by dsimp) ?_
  refine T.seq fun K14 hK14 => ?_
  refine T.seq fun K15 hK15 => ?_
  refine T.region ?_ -- region 12
  refine ro rfl rfl (OpOk.step (ok_move (.inl rfl))) ?_
  refine ro rfl rfl (OpOk.step (ok_move (.inl rfl))) ?_
  refine ro rfl rfl (OpOk.step (ok_binOp rfl ti_int rfl)) ?_
  refine ro_case rfl rfl (OpOk.step (ok_moveb (.inl rfl) rfl)) (fun hb => ?_) (fun hb => ?_)
  ·(try simp only [dE] at hb)
   have hout : v < a ∨ b < v := .inl hb
   rw [if_pos hout, if_pos hout] at hQ
   refine ro_skip rfl rfl ?_
   refine ro_skip rfl rfl ?_
   refine ro_skip rfl rfl ?_
   refine ro rfl rfl (OpOk.step (ok_pickb (t := true) (d := true) rfl rfl rfl)) ?_
   refine ro_nil ?_
   refine keepK hK15 [0, 8, 40] (by dsimp) (by dsimp) ?_
   refine T.cond_true rfl ?_
   refine T.seq fun K16 hK16 => ?_
   refine T.region ?_ -- region 13
   refine ro rfl rfl (OpOk.step (ok_move (.inl rfl))) ?_
   refine ro rfl rfl (OpOk.step (ok_nilCheck rfl rfl)) ?_
   refine ro rfl rfl (OpOk.step (ok_fieldAddr rfl ti_pack_Reader rfl rfl ti_api_Errno (by decide) rfl)) ?_
   refine ro rfl rfl (OpOk.step (ok_store rfl ti_api_Errno (by decide) rfl rfl rfl rfl rfl (by first | exact Nat.le_of_ble_eq_true rfl | simp) (by first | exact .inl ⟨rfl, rfl⟩ | exact .inr rfl))) ?_
   refine ro_nil ?_
   refine keepK hK16 [] (by dsimp) (by dsimp) ?_
   refine T.seq fun K17 hK17 => ?_
   refine T.region ?_ -- region 14
   refine ro rfl rfl (OpOk.step (ok_move (.inr rfl))) ?_
   refine ro_nil ?_
   refine keepK hK17 [6] (by dsimp) (by dsimp) ?_
   refine T.ret (hQ _ _ _ rfl ?_).1 -- ret 1
   exact TEnt.toH rfl ⟨rfl, trivial⟩
  ·(try simp only [dE] at hb)
   refine ro rfl rfl (OpOk.step (ok_move (.inl rfl))) ?_
   refine ro rfl rfl (OpOk.step (ok_move (.inl rfl))) ?_
   refine ro rfl rfl (OpOk.step (ok_binOp rfl ti_int rfl)) ?_
   refine ro rfl rfl (OpOk.step (ok_pick rfl rfl)) ?_
   refine ro_nil ?_
   refine keepK hK15 [0, 8, 40] (by dsimp) (by dsimp) ?_
   refine T.cond rfl (fun hc => ?_) (fun hc => ?_) -- cond 2
   ·(try simp only [dE] at hc)
    have hout : v < a ∨ b < v := .inr hc
    rw [if_pos hout, if_pos hout] at hQ
    refine T.seq fun K18 hK18 => ?_
    refine T.region ?_ -- region 13
    refine ro rfl rfl (OpOk.step (ok_move (.inl rfl))) ?_
    refine ro rfl rfl (OpOk.step (ok_nilCheck rfl rfl)) ?_
    refine ro rfl rfl (OpOk.step (ok_fieldAddr rfl ti_pack_Reader rfl rfl ti_api_Errno (by decide) rfl)) ?_
    refine ro rfl rfl (OpOk.step (ok_store rfl ti_api_Errno (by decide) rfl rfl rfl rfl rfl (by first | exact Nat.le_of_ble_eq_true rfl | simp) (by first | exact .inl ⟨rfl, rfl⟩ | exact .inr rfl))) ?_
    refine ro_nil ?_
    refine keepK hK18 [] (by dsimp) (by dsimp) ?_
    refine T.seq fun K19 hK19 => ?_
    refine T.region ?_ -- region 14
    refine ro rfl rfl (OpOk.step (ok_move (.inr rfl))) ?_
    refine ro_nil ?_
    refine keepK hK19 [6] (by dsimp) (by dsimp) ?_
    refine T.ret (hQ _ _ _ rfl ?_).1 -- ret 2
    exact TEnt.toH rfl ⟨rfl, trivial⟩
   ·(try simp only [dE] at hc)
    have hout : ¬ (v < a ∨ b < v) := by omega
    rw [if_neg hout, if_neg hout] at hQ
    refine T.skip ?_
    refine keepK hK14 [8] (by dsimp) (by dsimp) ?_
    refine T.seq fun K20 hK20 => ?_
    refine T.region ?_ -- region 15
    refine ro rfl rfl (OpOk.step (ok_move (.inl rfl))) ?_
    refine ro rfl rfl (OpOk.step (ok_move (.inr rfl))) ?_
    refine ro_nil ?_
    refine keepK hK20 [6] (by dsimp) (by dsimp) ?_
    refine T.ret (hQ _ _ _ rfl ?_).1 -- ret 3
    exact TEnt.toH rfl ⟨rfl, trivial⟩
theorem num_part (l : List Int) (i : Nat) : ∀ n, i + 1 ≤ n → ∃ X, num l n = num l i + 2 ^ (8 * i) * ((l.getD i 0).toNat + 256 * X)
  | n + 1, h => by
    by_cases e : i = n
    · subst e
      exact ⟨0, by simp only [num]; rw [Nat.mul_comm]; simp⟩
    · obtain ⟨X, hX⟩ := num_part l i n (by omega)
      refine ⟨X + (l.getD n 0).toNat * 2 ^ (8 * (n - (i + 1))), ?_⟩
      have e1 : 2 ^ (8 * n) = 2 ^ (8 * i) * (256 * 2 ^ (8 * (n - (i + 1)))) := by
        rw [show (256 : Nat) = 2 ^ 8 from rfl, ← Nat.pow_add, ← Nat.pow_add]
        congr 1
        omega
      simp only [num]
      rw [hX, e1]
      generalize (l.getD n 0).toNat = c
      generalize 2 ^ (8 * (n - (i + 1))) = u
      generalize 2 ^ (8 * i) = w
      rw [Nat.add_assoc, show c * (w * (256 * u)) = w * (256 * (c * u)) by rw [Nat.mul_left_comm, Nat.mul_left_comm c], ← Nat.mul_add]
      congr 2
      omega
theorem num_digit {l : List Int} (h : ∀ i, (l.getD i 0).toNat < 256) {i n : Nat} (hi : i + 1 ≤ n) : num l n / 2 ^ (8 * i) = 256 * (num l n / 2 ^ (8 * (i + 1))) + (l.getD i 0).toNat := by
  obtain ⟨X, hX⟩ := num_part l i n hi
  have hlt := num_lt h i
  have e1 : num l n / 2 ^ (8 * i) = (l.getD i 0).toNat + 256 * X := by
    rw [hX, Nat.add_mul_div_left _ _ (Nat.pow_pos (by decide)), Nat.div_eq_of_lt hlt, Nat.zero_add]
  have e2 : num l n / 2 ^ (8 * (i + 1)) = X := by
    rw [show 8 * (i + 1) = 8 * i + 8 from rfl, Nat.pow_add, ← Nat.div_div_eq_div_mul, e1]
    have := h i
    show _ / 256 = X
    omega
  rw [e1, e2]
  omega
theorem flag_dead (l : List Int) (p : Nat) (e : Int) (he : e ≠ 0) : CSpec Try.prog 119 [R l p e] [.ref 0 0 0] [some (R l p e)] (.b false) := by
 refine CSpec.body Try.func119 rfl rfl rfl rfl rfl fun Q hQ => ?_
 refine T.seq fun K1 hK1 => ?_
 refine T.region ?_ -- region 0
 refine ro rfl rfl (OpOk.step (ok_moveb (c := false) (.inr rfl) rfl)) ?_
 refine ro_nil ?_
 refine keepK hK1 [0] (by dsimp) (by dsimp) ?_
 refine T.seq fun K2 hK2 => ?_
 refine T.seq fun K3 hK3 => ?_
 refine T.region ?_ -- region 1
 refine ro rfl rfl (OpOk.step (ok_move (.inl rfl))) ?_
 refine ro rfl rfl (OpOk.step (OpOk.bool (d := false) (ok_binOp rfl ti_Ppack_Reader rfl) (rfl))) ?_
 refine ro_nil ?_
 refine keepK hK3 [0, 5] (by dsimp) (by dsimp) ?_
 refine T.cond_false rfl ?_
 refine T.skip ?_
 refine keepK hK2 [0] (by dsimp) (by dsimp) ?_
 refine T.seq fun K4 hK4 => ?_
 refine T.region ?_ -- region 3
 refine ro rfl rfl (OpOk.step (ok_move (.inl rfl))) ?_
 refine ro rfl rfl (ok_call rfl rfl rfl (((take_dead l p e 1 he).pass [0] (by decide) (by simp) (normR _ _ _) rfl).eq (x' := .fz 1 (ints .u8 [])) (H'' := [some (R l p e)]) rfl (pass0 (H := []) _ _ _))) ?_
 refine ro rfl rfl (OpOk.step (ok_move (.inr rfl))) ?_
 refine ro_nil ?_
 refine keepK hK4 [0, 3] (by dsimp) (by dsimp) ?_
 refine T.seq fun K5 hK5 => ?_
 refine T.seq fun K6 hK6 => ?_
 refine T.region ?_ -- region 4
 refine ro rfl rfl (OpOk.step (ok_move (.inl rfl))) ?_
 refine ro rfl rfl (OpOk.step (ok_nilCheck rfl rfl)) ?_
 refine ro rfl rfl (OpOk.step (ok_fieldAddr rfl ti_pack_Reader rfl rfl ti_api_Errno (by decide) rfl)) ?_
 refine ro rfl rfl (OpOk.step (ok_load rfl ti_api_Errno rfl rfl)) ?_
 refine ro rfl rfl (OpOk.step (OpOk.bool (d := true) (ok_binOp rfl ti_api_Errno rfl) (by simp [he]))) ?_
 refine ro_nil ?_
 refine keepK hK6 [0, 3, 12] (by dsimp) (by dsimp) ?_
 refine T.cond_true rfl ?_
 refine T.seq fun K7 hK7 => ?_
 refine T.region ?_ -- region 5
 refine ro rfl rfl (OpOk.step (ok_moveb (c := false) (.inr rfl) rfl)) ?_
 refine ro_nil ?_
 refine keepK hK7 [2] (by dsimp) (by dsimp) ?_
 refine T.ret (hQ _ _ _ rfl ?_).1 -- ret 1
 exact TEnt.toH rfl ⟨rfl, trivial⟩
theorem flag_short (l : List Int) (p : Nat) (hn : l.length < p + 1) (hp : p ≤ l.length) (hl : l.length ≤ 140737488355328) : CSpec Try.prog 119 [R l p 0] [.ref 0 0 0] [some (R l p 14)] (.b false) := by
 refine CSpec.body Try.func119 rfl rfl rfl rfl rfl fun Q hQ => ?_
 refine T.seq fun K1 hK1 => ?_
 refine T.region ?_ -- region 0
 refine ro rfl rfl (OpOk.step (ok_moveb (c := false) (.inr rfl) rfl)) ?_
 refine ro_nil ?_
 refine keepK hK1 [0] (by dsimp) (by dsimp) ?_
 refine T.seq fun K2 hK2 => ?_
 refine T.seq fun K3 hK3 => ?_
 refine T.region ?_ -- region 1
 refine ro rfl rfl (OpOk.step (ok_move (.inl rfl))) ?_
 refine ro rfl rfl (OpOk.step (OpOk.bool (d := false) (ok_binOp rfl ti_Ppack_Reader rfl) (rfl))) ?_
 refine ro_nil ?_
 refine keepK hK3 [0, 5] (by dsimp) (by dsimp) ?_
 refine T.cond_false rfl ?_
 refine T.skip ?_
 refine keepK hK2 [0] (by dsimp) (by dsimp) ?_
 refine T.seq fun K4 hK4 => ?_
 refine T.region ?_ -- region 3
 refine ro rfl rfl (OpOk.step (ok_move (.inl rfl))) ?_
 refine ro rfl rfl (ok_call rfl rfl rfl (((take_short l p 1 hn hp hl).pass [0] (by decide) (by simp) (normR _ _ _) rfl).eq (x' := .fz 1 (ints .u8 [])) (H'' := [some (R l p 14)]) rfl (pass0 (H := []) _ _ _))) ?_
 refine ro rfl rfl (OpOk.step (ok_move (.inr rfl))) ?_
 refine ro_nil ?_
 refine keepK hK4 [0, 3] (by dsimp) (by dsimp) ?_
 refine T.seq fun K5 hK5 => ?_
 refine T.seq fun K6 hK6 => ?_
 refine T.region ?_ -- region 4
 refine ro rfl rfl (OpOk.step (ok_move (.inl rfl))) ?_
 refine ro rfl rfl (OpOk.step (ok_nilCheck rfl rfl)) ?_
 refine ro rfl rfl (OpOk.step (ok_fieldAddr rfl ti_pack_Reader rfl rfl ti_api_Errno (by decide) rfl)) ?_
 refine ro rfl rfl (OpOk.step (ok_load rfl ti_api_Errno rfl rfl)) ?_
 refine ro rfl rfl (OpOk.step (OpOk.bool (d := true) (ok_binOp rfl ti_api_Errno rfl) (by simp))) ?_
 refine ro_nil ?_
 refine keepK hK6 [0, 3, 12] (by dsimp) (by dsimp) ?_
 refine T.cond_true rfl ?_
 refine T.seq fun K7 hK7 => ?_
 refine T.region ?_ -- region 5
 refine ro rfl rfl (OpOk.step (ok_moveb (c := false) (.inr rfl) rfl)) ?_
 refine ro_nil ?_
 refine keepK hK7 [2] (by dsimp) (by dsimp) ?_
 refine T.ret (hQ _ _ _ rfl ?_).1 -- ret 1
 exact TEnt.toH rfl ⟨rfl, trivial⟩
theorem flag_good (l : List Int) (p : Nat) (c : Int) (hc0 : l[p]? = some c) (hl : l.length ≤ 140737488355328) : CSpec Try.prog 119 [R l p 0] [.ref 0 0 0] [some (R l (p + 1) (if 1 < c then 13 else 0))] (.b (c == 1)) := by
 have hn : p + 1 ≤ l.length := (List.getElem?_eq_some_iff.1 hc0).1
 have hr : (l.drop p).take 1 = [c] := by
   have hcc : l[p] = c := (List.getElem?_eq_some_iff.1 hc0).2
   rw [List.drop_eq_getElem_cons hn, hcc]
   rfl
 refine CSpec.body Try.func119 rfl rfl rfl rfl rfl fun Q hQ => ?_
 refine T.seq fun K1 hK1 => ?_
 refine T.region ?_ -- region 0
 refine ro rfl rfl (OpOk.step (ok_moveb (c := false) (.inr rfl) rfl)) ?_
 refine ro_nil ?_
 refine keepK hK1 [0] (by dsimp) (by dsimp) ?_
 refine T.seq fun K2 hK2 => ?_
 refine T.seq fun K3 hK3 => ?_
 refine T.region ?_ -- region 1
 refine ro rfl rfl (OpOk.step (ok_move (.inl rfl))) ?_
 refine ro rfl rfl (OpOk.step (OpOk.bool (d := false) (ok_binOp rfl ti_Ppack_Reader rfl) (rfl))) ?_
 refine ro_nil ?_
 refine keepK hK3 [0, 5] (by dsimp) (by dsimp) ?_
 refine T.cond_false rfl ?_
 refine T.skip ?_
 refine keepK hK2 [0] (by dsimp) (by dsimp) ?_
 refine T.seq fun K4 hK4 => ?_
 refine T.region ?_ -- region 3
 refine ro rfl rfl (OpOk.step (ok_move (.inl rfl))) ?_
 refine ro rfl rfl (ok_call rfl rfl rfl (((take_good l p 1 hn hl).pass [0] (by decide) (by simp) (normR _ _ _) rfl).eq (x' := .fz 1 (ints .u8 [c])) (H'' := [some (R l (p + 1) 0)]) (by rw [hr]; simp [AV.ren, renL_ints]) (pass0 (H := []) _ _ _))) ?_
 refine ro rfl rfl (OpOk.step (ok_move (.inr rfl))) ?_
 refine ro_nil ?_
 refine keepK hK4 [0, 3] (by dsimp) (by dsimp) ?_
 refine T.seq fun K5 hK5 => ?_
 refine T.seq fun K6 hK6 => ?_
 refine T.region ?_ -- region 4
 refine ro rfl rfl (OpOk.step (ok_move (.inl rfl))) ?_
 refine ro rfl rfl (OpOk.step (ok_nilCheck rfl rfl)) ?_
 refine ro rfl rfl (OpOk.step (ok_fieldAddr rfl ti_pack_Reader rfl rfl ti_api_Errno (by decide) rfl)) ?_
 refine ro rfl rfl (OpOk.step (ok_load rfl ti_api_Errno rfl rfl)) ?_
 refine ro rfl rfl (OpOk.step (OpOk.bool (d := false) (ok_binOp rfl ti_api_Errno rfl) (by simp))) ?_
 refine ro_nil ?_
 refine keepK hK6 [0, 3, 12] (by dsimp) (by dsimp) ?_
 refine T.cond_false rfl ?_
 refine T.skip ?_
 refine keepK hK5 [0, 3] (by dsimp) (by dsimp) ?_
 refine T.seq fun K7 hK7 => ?_
 refine T.seq fun K8 hK8 => ?_
 refine T.region ?_ -- region 6
 refine ro rfl rfl (OpOk.step (ok_move (.inl rfl))) ?_
 refine ro rfl rfl (OpOk.step (by exact ok_index_ints (l := [c]) (y := c) rfl ti_Luint8 rfl ti_uint8 rfl rfl rfl (by omega) rfl)) ?_
 refine ro rfl rfl (OpOk.step (ok_load rfl ti_uint8 rfl rfl)) ?_
 refine ro rfl rfl (OpOk.step (ok_binOp rfl ti_uint8 rfl)) ?_
 refine ro_nil ?_
 refine keepK hK8 [0, 3, 16] (by dsimp) (by dsimp) ?_
 refine T.cond rfl (fun hc => ?_) (fun hc => ?_) -- cond 1
 ·(try simp only [dE] at hc)
  rw [if_pos hc] at hQ
  refine T.region ?_ -- region 7
  refine ro rfl rfl (OpOk.step (ok_move (.inl rfl))) ?_
  refine ro rfl rfl (OpOk.step (ok_nilCheck rfl rfl)) ?_
  refine ro rfl rfl (OpOk.step (ok_fieldAddr rfl ti_pack_Reader rfl rfl ti_api_Errno (by decide) rfl)) ?_
  refine ro rfl rfl (OpOk.step (ok_store rfl ti_api_Errno (by decide) rfl rfl rfl rfl rfl (by first | exact Nat.le_of_ble_eq_true rfl | simp) (by first | exact .inl ⟨rfl, rfl⟩ | exact .inr rfl))) ?_
  refine ro_nil ?_
  refine keepK hK7 [3] (by dsimp) (by dsimp) ?_
  refine T.seq fun K9 hK9 => ?_
  refine T.region ?_ -- region 8
  refine ro rfl rfl (OpOk.step (ok_move (.inl rfl))) ?_
  refine ro rfl rfl (OpOk.step (by exact ok_index_ints (l := [c]) (y := c) rfl ti_Luint8 rfl ti_uint8 rfl rfl rfl (by omega) rfl)) ?_
  refine ro rfl rfl (OpOk.step (ok_load rfl ti_uint8 rfl rfl)) ?_
  refine ro rfl rfl (OpOk.step (ok_binOp rfl ti_uint8 rfl)) ?_
  refine ro rfl rfl (OpOk.step (ok_move (.inr rfl))) ?_
  refine ro_nil ?_
  refine keepK hK9 [2] (by dsimp) (by dsimp) ?_
  refine T.ret (hQ _ _ _ rfl ?_).1 -- ret 1
  exact TEnt.toH rfl ⟨rfl, trivial⟩
 ·(try simp only [dE] at hc)
  rw [if_neg hc] at hQ
  refine T.skip ?_
  refine keepK hK7 [3] (by dsimp) (by dsimp) ?_
  refine T.seq fun K10 hK10 => ?_
  refine T.region ?_ -- region 8
  refine ro rfl rfl (OpOk.step (ok_move (.inl rfl))) ?_
  refine ro rfl rfl (OpOk.step (by exact ok_index_ints (l := [c]) (y := c) rfl ti_Luint8 rfl ti_uint8 rfl rfl rfl (by omega) rfl)) ?_
  refine ro rfl rfl (OpOk.step (ok_load rfl ti_uint8 rfl rfl)) ?_
  refine ro rfl rfl (OpOk.step (ok_binOp rfl ti_uint8 rfl)) ?_
  refine ro rfl rfl (OpOk.step (ok_move (.inr rfl))) ?_
  refine ro_nil ?_
  refine keepK hK10 [2] (by dsimp) (by dsimp) ?_
  refine T.ret (hQ _ _ _ rfl ?_).1 -- ret 2
  exact TEnt.toH rfl ⟨rfl, trivial⟩
theorem err_ok (l : List Int) (p : Nat) (e : Int) : CSpec Try.prog 78 [R l p e] [.ref 0 0 0] [some (R l p e)] (.int e) := by
 refine CSpec.body Try.func78 rfl rfl rfl rfl rfl fun Q hQ => ?_
 refine T.seq fun K1 hK1 => ?_
 refine T.region ?_ -- region 0
 refine ro rfl rfl (OpOk.step (ok_move (.inr rfl))) ?_
 refine ro_nil ?_
 refine keepK hK1 [0] (by dsimp) (by dsimp) ?_
 refine T.seq fun K2 hK2 => ?_
 refine T.seq fun K3 hK3 => ?_
 refine T.region ?_ -- region 1
 refine ro rfl rfl (OpOk.step (ok_move (.inl rfl))) ?_
 refine ro rfl rfl (OpOk.step (OpOk.bool (d := false) (ok_binOp rfl ti_Ppack_Reader rfl) (rfl))) ?_
 refine ro_nil ?_
 refine keepK hK3 [0, 4] (by dsimp) (by dsimp) ?_
 refine T.cond_false rfl ?_
 refine T.skip ?_
 refine keepK hK2 [0] (by dsimp) (by dsimp) ?_
 refine T.seq fun K4 hK4 => ?_
 refine T.region ?_ -- region 3
 refine ro rfl rfl (OpOk.step (ok_move (.inl rfl))) ?_
 refine ro rfl rfl (OpOk.step (ok_nilCheck rfl rfl)) ?_
 refine ro rfl rfl (OpOk.step (ok_fieldAddr rfl ti_pack_Reader rfl rfl ti_api_Errno (by decide) rfl)) ?_
 refine ro rfl rfl (OpOk.step (ok_load rfl ti_api_Errno rfl rfl)) ?_
 refine ro rfl rfl (OpOk.step (ok_move (.inr rfl))) ?_
 refine ro_nil ?_
 refine keepK hK4 [2] (by dsimp) (by dsimp) ?_
 refine T.ret (hQ _ _ _ rfl ?_).1 -- ret 1
 exact TEnt.toH rfl ⟨rfl, trivial⟩
theorem left_ok (l : List Int) (p : Nat) (e : Int) (hp : p ≤ l.length) (hl : l.length ≤ 140737488355328) : CSpec Try.prog 79 [R l p e] [.ref 0 0 0] [some (R l p e)] (.int ((l.length : Int) - p)) := by
 refine CSpec.body Try.func79 rfl rfl rfl rfl rfl fun Q hQ => ?_
 refine T.seq fun K1 hK1 => ?_
 refine T.region ?_ -- region 0
 refine ro rfl rfl (OpOk.step (ok_move (.inr rfl))) ?_
 refine ro_nil ?_
 refine keepK hK1 [0] (by dsimp) (by dsimp) ?_
 refine T.seq fun K2 hK2 => ?_
 refine T.seq fun K3 hK3 => ?_
 refine T.region ?_ -- region 1
 refine ro rfl rfl (OpOk.step (ok_move (.inl rfl))) ?_
 refine ro rfl rfl (OpOk.step (OpOk.bool (d := false) (ok_binOp rfl ti_Ppack_Reader rfl) (rfl))) ?_
 refine ro_nil ?_
 refine keepK hK3 [0, 4] (by dsimp) (by dsimp) ?_
 refine T.cond_false rfl ?_
 refine T.skip ?_
 refine keepK hK2 [0] (by dsimp) (by dsimp) ?_
 refine T.seq fun K4 hK4 => ?_
 refine T.drawH mixed [] ?_ -- region 3
 refine any_take 0 rfl (by first | rfl | decide +kernel) rfl (HeldL.refl _) (fun H' hH => OpOk.step (ok_move (.inl rfl))) ?_
 refine any_take 1 rfl (by first | rfl | decide +kernel) rfl (HeldL.refl _) (fun H' hH => OpOk.step (ok_nilCheck rfl rfl)) ?_
 refine any_take 2 rfl (by first | rfl | decide +kernel) rfl (HeldL.refl _) (fun H' hH => OpOk.step (ok_fieldAddr rfl ti_pack_Reader rfl rfl ti_Luint8 (by decide) rfl)) ?_
 refine any_take 3 rfl (by first | rfl | decide +kernel) rfl (HeldL.refl _) (fun H' hH => OpOk.step (ok_load rfl ti_Luint8 (locA_held hH rfl) rfl)) ?_
 refine any_take 4 rfl (by first | rfl | decide +kernel) rfl (HeldL.refl _) (fun H' hH => OpOk.step ((ok_len rfl rfl ti_Luint8 rfl).eq (x' := .int l.length) (by rw [ints_length]) rfl)) ?_
 refine any_take 5 rfl (by first | rfl | decide +kernel) rfl (HeldL.refl _) (fun H' hH => OpOk.step (ok_move (.inl rfl))) ?_
 refine any_take 6 rfl (by first | rfl | decide +kernel) rfl (HeldL.refl _) (fun H' hH => OpOk.step (ok_nilCheck rfl rfl)) ?_
 refine any_take 7 rfl (by first | rfl | decide +kernel) rfl (HeldL.refl _) (fun H' hH => OpOk.step (ok_fieldAddr rfl ti_pack_Reader rfl rfl ti_int (by decide) rfl)) ?_
 refine any_take 8 rfl (by first | rfl | decide +kernel) rfl (HeldL.refl _) (fun H' hH => OpOk.step (ok_load rfl ti_int (locA_held hH rfl) rfl)) ?_
 refine any_take 9 rfl (by first | rfl | decide +kernel) rfl (HeldL.refl _) (fun H' hH => OpOk.step (ok_sub64 rfl ti_int rfl rfl (by omega) (by omega))) ?_
 refine any_take 10 rfl (by first | rfl | decide +kernel) rfl (HeldL.refl _) (fun H' hH => OpOk.step (ok_move (.inr rfl))) ?_
 refine any_done rfl ?_
 refine keepK hK4 [2] (by dsimp) (by dsimp) ?_
 refine T.ret (hQ _ _ _ rfl ?_).1 -- ret 1
 exact TEnt.toH rfl ⟨rfl, trivial⟩
/-- A number read: the place, the error, the number. -/
def ri (l : List Int) (p : Nat) (e a b : Int) : Nat × Int × Int :=
  if e ≠ 0 then (p, e, 0) else if l.length < p + 8 then (p, 14, 0) else if val8 l p < a ∨ b < val8 l p then (p + 8, 13, 0) else (p + 8, 0, val8 l p)
theorem ri_le {l : List Int} {p : Nat} {e a b : Int} (hp : p ≤ l.length) : (ri l p e a b).1 ≤ l.length := by
  unfold ri
  split
  · exact hp
  · split
    · exact hp
    · split <;> dsimp <;> omega
theorem int_ok (l : List Int) (p : Nat) (e a b : Int) (hB : Bytes l) (hp : p ≤ l.length) (hl : l.length ≤ 140737488355328) : CSpec Try.prog 76 [R l p e] [.ref 0 0 0, .int a, .int b] [some (R l (ri l p e a b).1 (ri l p e a b).2.1)] (.int (ri l p e a b).2.2) := by
  unfold ri
  by_cases he : e ≠ 0
  · rw [if_pos he]; exact int_dead l p e a b he
  · rw [if_neg he]
    obtain rfl : e = 0 := by omega
    by_cases hn : l.length < p + 8
    · rw [if_pos hn]; exact int_short l p a b hn hp hl
    · rw [if_neg hn]
      have h := int_good l p a b hB (by omega) hl
      by_cases ho : val8 l p < a ∨ b < val8 l p
      · rw [if_pos ho, if_pos ho] at h; rw [if_pos ho]; exact h
      · rw [if_neg ho, if_neg ho] at h; rw [if_neg ho]; exact h
/-- A truth read. -/
def rf (l : List Int) (p : Nat) (e : Int) : Nat × Int × Bool :=
  if e ≠ 0 then (p, e, false) else match l[p]? with
    | none => (p, 14, false)
    | some c => (p + 1, if 1 < c then 13 else 0, c == 1)
theorem rf_le {l : List Int} {p : Nat} {e : Int} (hp : p ≤ l.length) : (rf l p e).1 ≤ l.length := by
  unfold rf
  split
  · exact hp
  · split
    · exact hp
    · rename_i h; have := (List.getElem?_eq_some_iff.1 h).1; dsimp; omega
theorem flag_ok (l : List Int) (p : Nat) (e : Int) (hp : p ≤ l.length) (hl : l.length ≤ 140737488355328) : CSpec Try.prog 119 [R l p e] [.ref 0 0 0] [some (R l (rf l p e).1 (rf l p e).2.1)] (.b (rf l p e).2.2) := by
  unfold rf
  by_cases he : e ≠ 0
  · rw [if_pos he]; exact flag_dead l p e he
  · rw [if_neg he]
    obtain rfl : e = 0 := by omega
    cases h : l[p]? with
    | none => exact flag_short l p (by have := List.getElem?_eq_none_iff.1 h; omega) hp hl
    | some c => exact flag_good l p c h hl
theorem new_ok (l : List Int) (hl : l.length ≤ 140737488355328) : CSpec Try.prog 75 [] [.fz 1 (ints .u8 l)] [some (R l 0 0)] (.ref 0 0 0) := by
 refine CSpec.body Try.func75 rfl rfl rfl rfl rfl fun Q hQ => ?_
 refine T.seq fun K1 hK1 => ?_
 refine T.region ?_ -- region 0
 refine ro rfl rfl (OpOk.step (ok_move (.inr rfl))) ?_
 refine ro_nil ?_
 refine keepK hK1 [0] (by dsimp) (by dsimp) ?_
 refine T.seq fun K2 hK2 => ?_
 refine T.region ?_ -- region 1
 refine ro rfl rfl (OpOk.step (ok_move (.inl rfl))) ?_
 refine ro rfl rfl (ok_call rfl rfl rfl ((clone_frz l hl).plain (by simp [renL, AV.ren, renL_ints]) (by simp [AV.ren, renL_ints]))) ?_
 refine ro rfl rfl (OpOk.step (ok_build rfl ti_pack_Reader rfl)) ?_
 refine ro rfl rfl (OpOk.step (ok_box (n := 3) rfl rfl (by decide))) ?_
 refine ro rfl rfl (OpOk.step (ok_move (.inr rfl))) ?_
 refine ro_nil ?_
 refine keepK hK2 [2] (by dsimp) (by dsimp) ?_
 refine T.ret (hQ _ _ _ rfl ?_).1 -- ret 1
 exact TEnt.fin [0] (by decide) (by simp) (normR l 0 0) ⟨rfl, trivial⟩
theorem bytes_dead (l : List Int) (p : Nat) (e m : Int) (hB : Bytes l) (hp : p ≤ l.length) (hl : l.length ≤ 140737488355328) (p1 : Nat) (e1 v : Int) (hq : ri l p e 0 m = (p1, e1, v)) (he : e1 ≠ 0) : CSpec Try.prog 120 [R l p e] [.ref 0 0 0, .int m] [some (R l p1 e1)] (.fz 1 (ints .u8 [])) := by
 refine CSpec.body Try.func120 rfl rfl rfl rfl rfl fun Q hQ => ?_
 refine T.seq fun K1 hK1 => ?_
 refine T.region ?_ -- region 0
 refine ro rfl rfl (OpOk.step (ok_move (.inr rfl))) ?_
 refine ro_nil ?_
 refine keepK hK1 [0, 1] (by dsimp) (by dsimp) ?_
 refine T.seq fun K2 hK2 => ?_
 refine T.seq fun K3 hK3 => ?_
 refine T.region ?_ -- region 1
 refine ro rfl rfl (OpOk.step (ok_move (.inl rfl))) ?_
 refine ro rfl rfl (OpOk.step (OpOk.bool (d := false) (ok_binOp rfl ti_Ppack_Reader rfl) (rfl))) ?_
 refine ro_nil ?_
 refine keepK hK3 [0, 1, 7] (by dsimp) (by dsimp) ?_
 refine T.cond_false rfl ?_
 refine T.skip ?_
 refine keepK hK2 [0, 1] (by dsimp) (by dsimp) ?_
 refine T.seq fun K4 hK4 => ?_
 refine T.region ?_ -- region 3
 refine ro rfl rfl (OpOk.step (ok_move (.inl rfl))) ?_
 refine ro rfl rfl (OpOk.step (ok_move (.inl rfl))) ?_
 refine ro rfl rfl (ok_call rfl rfl rfl (((int_ok l p e 0 m hB hp hl).pass [0] (by decide) (by simp) (normR _ _ _) rfl).eq (x' := .int v) (H'' := [some (R l p1 e1)]) (by rw [hq]; rfl) (by rw [hq]; exact pass0 (H := []) _ _ _))) ?_
 refine ro rfl rfl (OpOk.step (ok_move (.inr rfl))) ?_
 refine ro_nil ?_
 refine keepK hK4 [0, 5] (by dsimp) (by dsimp) ?_
 refine T.seq fun K5 hK5 => ?_
 refine T.region ?_ -- region 4
 refine ro rfl rfl (OpOk.step (ok_move (.inl rfl))) ?_
 refine ro rfl rfl (OpOk.step (ok_move (.inl rfl))) ?_
 refine ro rfl rfl (ok_call rfl rfl rfl (((take_dead l p1 e1 v he).pass [0] (by decide) (by simp) (normR _ _ _) rfl).eq (x' := .fz 1 (ints .u8 [])) (H'' := [some (R l p1 e1)]) rfl (pass0 (H := []) _ _ _))) ?_
 refine ro rfl rfl (ok_call rfl rfl rfl ((clone_frz [] (by simp)).plain rfl rfl)) ?_
 refine ro rfl rfl (OpOk.step (ok_move (.inr rfl))) ?_
 refine ro_nil ?_
 refine keepK hK5 [4] (by dsimp) (by dsimp) ?_
 refine T.ret (hQ _ _ _ rfl ?_).1 -- ret 1
 exact TEnt.fin [0] (by decide) (by simp) (normR l p1 e1) ⟨rfl, trivial⟩
theorem bytes_short (l : List Int) (p : Nat) (e m : Int) (hB : Bytes l) (hp : p ≤ l.length) (hl : l.length ≤ 140737488355328) (p1 n : Nat) (hq : ri l p e 0 m = (p1, 0, (n : Int))) (hp1 : p1 ≤ l.length) (hn : l.length < p1 + n) : CSpec Try.prog 120 [R l p e] [.ref 0 0 0, .int m] [some (R l p1 14)] (.fz 1 (ints .u8 [])) := by
 refine CSpec.body Try.func120 rfl rfl rfl rfl rfl fun Q hQ => ?_
 refine T.seq fun K1 hK1 => ?_
 refine T.region ?_ -- region 0
 refine ro rfl rfl (OpOk.step (ok_move (.inr rfl))) ?_
 refine ro_nil ?_
 refine keepK hK1 [0, 1] (by dsimp) (by dsimp) ?_
 refine T.seq fun K2 hK2 => ?_
 refine T.seq fun K3 hK3 => ?_
 refine T.region ?_ -- region 1
 refine ro rfl rfl (OpOk.step (ok_move (.inl rfl))) ?_
 refine ro rfl rfl (OpOk.step (OpOk.bool (d := false) (ok_binOp rfl ti_Ppack_Reader rfl) (rfl))) ?_
 refine ro_nil ?_
 refine keepK hK3 [0, 1, 7] (by dsimp) (by dsimp) ?_
 refine T.cond_false rfl ?_
 refine T.skip ?_
 refine keepK hK2 [0, 1] (by dsimp) (by dsimp) ?_
 refine T.seq fun K4 hK4 => ?_
 refine T.region ?_ -- region 3
 refine ro rfl rfl (OpOk.step (ok_move (.inl rfl))) ?_
 refine ro rfl rfl (OpOk.step (ok_move (.inl rfl))) ?_
 refine ro rfl rfl (ok_call rfl rfl rfl (((int_ok l p e 0 m hB hp hl).pass [0] (by decide) (by simp) (normR _ _ _) rfl).eq (x' := .int n) (H'' := [some (R l p1 0)]) (by rw [hq]; rfl) (by rw [hq]; exact pass0 (H := []) _ _ _))) ?_
 refine ro rfl rfl (OpOk.step (ok_move (.inr rfl))) ?_
 refine ro_nil ?_
 refine keepK hK4 [0, 5] (by dsimp) (by dsimp) ?_
 refine T.seq fun K5 hK5 => ?_
 refine T.region ?_ -- region 4
 refine ro rfl rfl (OpOk.step (ok_move (.inl rfl))) ?_
 refine ro rfl rfl (OpOk.step (ok_move (.inl rfl))) ?_
 refine ro rfl rfl (ok_call rfl rfl rfl (((take_short l p1 n hn hp1 hl).pass [0] (by decide) (by simp) (normR _ _ _) rfl).eq (x' := .fz 1 (ints .u8 [])) (H'' := [some (R l p1 14)]) rfl (pass0 (H := []) _ _ _))) ?_
 refine ro rfl rfl (ok_call rfl rfl rfl ((clone_frz [] (by simp)).plain rfl rfl)) ?_
 refine ro rfl rfl (OpOk.step (ok_move (.inr rfl))) ?_
 refine ro_nil ?_
 refine keepK hK5 [4] (by dsimp) (by dsimp) ?_
 refine T.ret (hQ _ _ _ rfl ?_).1 -- ret 1
 exact TEnt.fin [0] (by decide) (by simp) (normR l p1 14) ⟨rfl, trivial⟩
theorem bytes_good (l : List Int) (p : Nat) (e m : Int) (hB : Bytes l) (hp : p ≤ l.length) (hl : l.length ≤ 140737488355328) (p1 n : Nat) (hq : ri l p e 0 m = (p1, 0, (n : Int))) (hn : p1 + n ≤ l.length) : CSpec Try.prog 120 [R l p e] [.ref 0 0 0, .int m] [some (R l (p1 + n) 0)] (.fz 1 (ints .u8 ((l.drop p1).take n))) := by
 refine CSpec.body Try.func120 rfl rfl rfl rfl rfl fun Q hQ => ?_
 refine T.seq fun K1 hK1 => ?_
 refine T.region ?_ -- region 0
 refine ro rfl rfl (OpOk.step (ok_move (.inr rfl))) ?_
 refine ro_nil ?_
 refine keepK hK1 [0, 1] (by dsimp) (by dsimp) ?_
 refine T.seq fun K2 hK2 => ?_
 refine T.seq fun K3 hK3 => ?_
 refine T.region ?_ -- region 1
 refine ro rfl rfl (OpOk.step (ok_move (.inl rfl))) ?_
 refine ro rfl rfl (OpOk.step (OpOk.bool (d := false) (ok_binOp rfl ti_Ppack_Reader rfl) (rfl))) ?_
 refine ro_nil ?_
 refine keepK hK3 [0, 1, 7] (by dsimp) (by dsimp) ?_
 refine T.cond_false rfl ?_
 refine T.skip ?_
 refine keepK hK2 [0, 1] (by dsimp) (by dsimp) ?_
 refine T.seq fun K4 hK4 => ?_
 refine T.region ?_ -- region 3
 refine ro rfl rfl (OpOk.step (ok_move (.inl rfl))) ?_
 refine ro rfl rfl (OpOk.step (ok_move (.inl rfl))) ?_
 refine ro rfl rfl (ok_call rfl rfl rfl (((int_ok l p e 0 m hB hp hl).pass [0] (by decide) (by simp) (normR _ _ _) rfl).eq (x' := .int n) (H'' := [some (R l p1 0)]) (by rw [hq]; rfl) (by rw [hq]; exact pass0 (H := []) _ _ _))) ?_
 refine ro rfl rfl (OpOk.step (ok_move (.inr rfl))) ?_
 refine ro_nil ?_
 refine keepK hK4 [0, 5] (by dsimp) (by dsimp) ?_
 refine T.seq fun K5 hK5 => ?_
 refine T.region ?_ -- region 4
 refine ro rfl rfl (OpOk.step (ok_move (.inl rfl))) ?_
 refine ro rfl rfl (OpOk.step (ok_move (.inl rfl))) ?_
 refine ro rfl rfl (ok_call rfl rfl rfl (((take_good l p1 n hn hl).pass [0] (by decide) (by simp) (normR _ _ _) rfl).eq (x' := .fz 1 (ints .u8 ((l.drop p1).take n))) (H'' := [some (R l (p1 + n) 0)]) (by simp [AV.ren, renL_ints]) (pass0 (H := []) _ _ _))) ?_
 refine ro rfl rfl (ok_call rfl rfl rfl ((clone_frz ((l.drop p1).take n) (by simp; omega)).plain (by simp [renL, AV.ren, renL_ints]) (by simp [AV.ren, renL_ints]))) ?_
 refine ro rfl rfl (OpOk.step (ok_move (.inr rfl))) ?_
 refine ro_nil ?_
 refine keepK hK5 [4] (by dsimp) (by dsimp) ?_
 refine T.ret (hQ _ _ _ rfl ?_).1 -- ret 1
 exact TEnt.fin [0] (by decide) (by simp) (normR l (p1 + n) 0) ⟨by simp [tupA, AV.ren, renL_ints], trivial⟩

def enc (v : Int) (i : Nat) : List Int := (List.range i).map fun j => IntKind.u8.wrap (v / 2 ^ (8 * j))
theorem enc_len (v : Int) (i : Nat) : (enc v i).length = i := by simp [enc]
theorem enc_succ (v : Int) (i : Nat) : enc v i ++ [IntKind.u8.wrap (v / 2 ^ (8 * i))] = enc v (i + 1) := by simp [enc, List.range_succ]
attribute [local simp] enc_len
theorem pkint_new (l : List Int) (v : Int) (hl : l.length ≤ 1000000) : CSpec Try.prog 84 [] [.fz 1 (ints .u8 l), .int v] [some ⟨1, true, ints .u8 (l ++ enc v 8)⟩] (.sl 0 0 (l ++ enc v 8).length) := by
 refine CSpec.body Try.func84 rfl rfl rfl rfl rfl fun Q hQ => ?_
 refine T.seq fun K1 hK1 => ?_
 refine T.region ?_ -- region 0
 refine ro rfl rfl (OpOk.step (ok_move (.inr rfl))) ?_
 refine ro_nil ?_
 refine keepK hK1 [0, 1] (by dsimp) (by dsimp) ?_
 refine T.seq fun K2 hK2 => ?_
 refine T.region ?_ -- region 1
 refine ro rfl rfl (OpOk.step (ok_move (.inl rfl))) ?_
 refine ro rfl rfl (ok_call rfl rfl rfl ((clone_new l (by omega)).fresh (x' := .sl 0 0 l.length) (H' := [some ⟨1, true, ints .u8 l⟩]) (by simp [renL, AV.ren, renL_ints]) rfl (by simp [renH, Blk.ren, renL_ints]))) ?_
 refine ro rfl rfl (OpOk.step (ok_move (.inr rfl))) ?_
 refine ro_nil ?_
 refine keepK hK2 [1, 5] (by dsimp) (by dsimp) ?_
 refine T.seq fun K3 hK3 => ?_
 refine T.seq fun K4 hK4 => ?_
 refine T.region ?_ -- region 2
 refine ro rfl rfl (OpOk.step (ok_move (.inl rfl))) ?_
 refine ro_nil ?_
 refine keepK hK4 [1, 5, 9] (by dsimp) (by dsimp) ?_
 refine T.block ?_
 refine T.loopI (ι := Nat) (fun i => i ≤ 8) (fun i => 8 - i) (fun i => ([(1, .int v), (5, .sl 0 0 (l ++ enc v i).length), (9, .int i)], [some ⟨1, true, ints .u8 (l ++ enc v i)⟩])) 0 (Nat.zero_le _) (TEnt.toH (by simp [enc]) ⟨rfl, by simp [enc], rfl, trivial⟩) (fun i hi => ?_) -- loop 1
 refine T.seq fun K5 hK5 => ?_
 refine T.region ?_ -- region 3
 refine ro rfl rfl (OpOk.step (ok_binOp rfl ti_int rfl)) ?_
 refine ro_nil ?_
 refine keepK hK5 [1, 5, 9, 10] (by dsimp) (by dsimp) ?_
 refine T.seq fun K6 hK6 => ?_
 refine T.cond rfl (fun hc => ?_) (fun hc => ?_) -- cond 1
 ·(try simp only [dE] at hc)
  refine T.skip ?_
  refine keepK hK6 [1, 5, 9] (by dsimp) (by dsimp) ?_
  refine T.seq fun K7 hK7 => ?_
  refine T.block ?_
  refine T.seq fun K8 hK8 => ?_
  refine T.region ?_ -- region 4
  refine ro rfl rfl (OpOk.step (ok_move (.inl rfl))) ?_
  refine ro rfl rfl (OpOk.step (ok_move (.inr rfl))) ?_
  refine ro_nil ?_
  refine keepK hK8 [1, 5, 6, 9] (by dsimp) (by dsimp) ?_
  refine T.region ?_ -- region 5
  refine ro rfl rfl (OpOk.step (ok_move (.inl rfl))) ?_
  refine ro rfl rfl (OpOk.step (ok_move (.inl rfl))) ?_
  refine ro rfl rfl (OpOk.step (ok_move (.inl rfl))) ?_
  refine ro rfl rfl (OpOk.step ((ok_mul64 rfl ti_int rfl rfl (by omega) (by omega)).eq (x' := .int (8 * i : Nat)) rfl rfl)) ?_
  refine ro rfl rfl (OpOk.step (ok_shr rfl ti_int (8 * i) rfl rfl (by show 8 * i ≤ 64; omega) rfl)) ?_
  refine ro rfl rfl (OpOk.step (ok_conv_int rfl ti_int ti_uint8 rfl rfl)) ?_
  refine ro rfl rfl (OpOk.step (ok_buildSlice (n := 1) (ps := #[(0, .tmp 17)]) rfl ti_Luint8 rfl ti_uint8 (by decide) rfl rfl (by decide) rfl rfl rfl)) ?_
  refine ro rfl rfl (OpOk.step (by exact ok_append_ints (k := .u8) (xs := l ++ enc v i) (ys := [IntKind.u8.wrap (v / 2 ^ (8 * i))]) rfl ti_Luint8 rfl ti_uint8 rfl (by decide) rfl ti_Luint8 (by simp) rfl rfl rfl rfl rfl rfl rfl rfl rfl (by simp <;> omega))) ?_
  refine ro rfl rfl (OpOk.step (ok_move (.inr rfl))) ?_
  refine ro_nil ?_
  refine keepK hK7 [1, 5, 9] (by dsimp) (by dsimp) ?_
  refine T.region ?_ -- region 6
  refine ro rfl rfl (OpOk.step (ok_add64 rfl ti_int rfl rfl (by omega) (by omega))) ?_
  refine ro rfl rfl (OpOk.step (ok_move (.inl rfl))) ?_
  refine ro_nil ?_
  exact ⟨i + 1, by omega, by omega, TEnt.fin [2] (by decide) (by simp) (by rw [← enc_succ, List.append_assoc]; simp [normH, hget, Blk.ren, renL_ints]) ⟨rfl, by rw [← enc_succ, List.append_assoc]; rfl, rfl, trivial⟩⟩
 ·(try simp only [dE] at hc)
  have hin : i = 8 := by omega
  subst hin
  refine T.exit ?_
  refine keepK hK3 [5] (by dsimp) (by dsimp) ?_
  refine T.seq fun K9 hK9 => ?_
  refine T.region ?_ -- region 7
  refine ro rfl rfl (OpOk.step (ok_move (.inl rfl))) ?_
  refine ro rfl rfl (OpOk.step (ok_move (.inr rfl))) ?_
  refine ro_nil ?_
  refine keepK hK9 [4] (by dsimp) (by dsimp) ?_
  refine T.ret (hQ _ _ _ rfl ?_).1 -- ret 1
  exact TEnt.fin [0] (by decide) (by simp) (by simp [normH, hget, Blk.ren, renL_ints]) ⟨rfl, trivial⟩
theorem pkint_live {r : List Int} (hr : ([] ++ enc 258 8 : List Int) = r) : CSpec Try.prog 84 [] [.fz 1 (ints .u8 []), .int 258] [] (.fz 1 (ints .u8 r)) := hr ▸ (pkint_new [] 258 (by decide)).frz (by simp) (renL_ints _ _ _)
/-- A row of bytes read. -/
def rb (l : List Int) (p : Nat) (e m : Int) : Nat × Int × List Int :=
  if (ri l p e 0 m).2.1 ≠ 0 then ((ri l p e 0 m).1, (ri l p e 0 m).2.1, []) else if l.length < (ri l p e 0 m).1 + (ri l p e 0 m).2.2.toNat then ((ri l p e 0 m).1, 14, []) else ((ri l p e 0 m).1 + (ri l p e 0 m).2.2.toNat, 0, (l.drop (ri l p e 0 m).1).take (ri l p e 0 m).2.2.toNat)
theorem ri_pos {l : List Int} {p : Nat} {e m : Int} : 0 ≤ (ri l p e 0 m).2.2 := by
  unfold ri
  split
  · exact Int.le_refl 0
  · split
    · exact Int.le_refl 0
    · split
      · exact Int.le_refl 0
      · dsimp; omega
theorem rb_le {l : List Int} {p : Nat} {e m : Int} (hp : p ≤ l.length) : (rb l p e m).1 ≤ l.length := by
  have := ri_le (e := e) (a := 0) (b := m) hp
  unfold rb
  split
  · exact this
  · split
    · exact this
    · dsimp; omega
theorem bytes_ok (l : List Int) (p : Nat) (e m : Int) (hB : Bytes l) (hp : p ≤ l.length) (hl : l.length ≤ 140737488355328) : CSpec Try.prog 120 [R l p e] [.ref 0 0 0, .int m] [some (R l (rb l p e m).1 (rb l p e m).2.1)] (.fz 1 (ints .u8 (rb l p e m).2.2)) := by
  have h0 := ri_pos (l := l) (p := p) (e := e) (m := m)
  have h1 := ri_le (e := e) (a := 0) (b := m) hp
  unfold rb
  obtain ⟨⟨p1, e1, v⟩, hq⟩ : ∃ q, ri l p e 0 m = q := ⟨_, rfl⟩
  rw [hq] at h0 h1 ⊢
  dsimp only at h0 h1 ⊢
  by_cases he : e1 ≠ 0
  · rw [if_pos he]; exact bytes_dead l p e m hB hp hl p1 e1 v hq he
  · rw [if_neg he]
    obtain rfl : e1 = 0 := by omega
    obtain ⟨n, rfl⟩ := Int.eq_ofNat_of_zero_le h0
    by_cases hn : l.length < p1 + (n : Int).toNat
    · rw [if_pos hn]; exact bytes_short l p e m hB hp hl p1 n hq h1 hn
    · rw [if_neg hn]; exact bytes_good l p e m hB hp hl p1 n hq (by simpa using hn)
def actsA (acts : List (Int × Int × Int)) : List AV := acts.map fun a => .agg [.int a.1, .int a.2.1, .int a.2.2]
theorem actsA_len (acts : List (Int × Int × Int)) : (actsA acts).length = acts.length := by simp [actsA]
theorem renL_acts (ρ : Nat → Option Nat) (acts : List (Int × Int × Int)) : renL ρ (actsA acts) = actsA acts := by
  rw [renL_map]; simp [actsA, AV.ren, renL, AV.int]
theorem passH (H : Heap) {l : List Int} {p : Nat} {e : Int} (l' : List Int) (p' : Nat) (e' : Int) : mergeH (some (R l p e) :: H) [0] [some (R l' p' e')] = some (R l' p' e') :: H := by
  simp [mergeH, setIds, renH, R, Blk.ren, renL, AV.ren, renL_ints]
theorem normRH (H : Heap) (l : List Int) (p : Nat) (e : Int) : normH [0] (some (R l p e) :: H) = [some (R l p e)] := by
  simp [normH, hget, R, Blk.ren, renL, AV.ren, renL_ints]
end Go.Proofs.Ytlegolcbjjjofaa.AmF
