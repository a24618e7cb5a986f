/- Walks over the abstract machine: slices.Clone of bytes. -/
import Derived.Test.YtlegolcbjjjofaaAmFacts
import Derived.Test.YtlegolcbjjjofaaAmNum
namespace Go.Proofs.Ytlegolcbjjjofaa.AmF
open Go Go.AM
set_option maxRecDepth 100000
set_option linter.unusedSimpArgs false
set_option linter.unusedVariables false
attribute [local simp] tkeep tget tput ev cav argsTM pickA normT putA splice AV.cells ints_length rowsA_length
theorem clone_nil : CSpec Try.prog 97 [] [.fz 1 (ints .u8 [])] [some ⟨1, true, ints .u8 []⟩] (.sl 0 0 0) := by
 refine CSpec.body Try.func97 rfl rfl rfl rfl rfl fun Q hQ => ?_
 refine T.seq fun K1 hK1 => ?_
 refine T.region ?_ -- region 0
 refine ro rfl rfl (OpOk.step (ok_move (.inr rfl))) ?_
 refine ro_nil ?_
 refine keepK hK1 [0] (by dsimp) (by dsimp) ?_
 refine T.seq fun K2 hK2 => ?_
 refine T.seq fun K3 hK3 => ?_
 refine T.region ?_ -- region 1
 refine ro rfl rfl (OpOk.step (ok_move (.inl rfl))) ?_
 refine ro rfl rfl (OpOk.step (ok_nil_ub rfl ti_Luint8 rfl (.inl rfl) rfl rfl)) ?_
 refine ro_nil ?_
 refine keepK hK3 [0, 4] (by dsimp) (by dsimp) ?_
 refine T.cond_ub rfl ?_ ?_
 ·(try simp only [dE] at hc)
  refine T.seq fun K4 hK4 => ?_
  refine T.region ?_ -- region 2
  refine ro rfl rfl (OpOk.step (ok_move (.inr rfl))) ?_
  refine ro_nil ?_
  refine keepK hK4 [2] (by dsimp) (by dsimp) ?_
  refine T.ret (hQ _ _ _ rfl ?_).1 -- ret 1
  exact ((TEnt.empty 0 1 (by decide) (.inr rfl)).trans (TEnt.fin [0] (by decide) (by simp) rfl ⟨rfl, trivial⟩))
 ·(try simp only [dE] at hc)
  refine T.skip ?_
  refine keepK hK2 [0] (by dsimp) (by dsimp) ?_
  refine T.seq fun K5 hK5 => ?_
  refine T.region ?_ -- region 3
  refine ro rfl rfl (OpOk.step (ok_buildSlice (n := 0) (ps := #[]) rfl ti_Luint8 rfl ti_uint8 (by decide) rfl rfl (by decide) rfl rfl rfl)) ?_
  refine ro rfl rfl (OpOk.step (ok_move (.inl rfl))) ?_
  refine ro rfl rfl (OpOk.step (by exact ok_append_ints (k := .u8) (xs := []) (ys := []) rfl ti_Luint8 rfl ti_uint8 rfl (by decide) rfl ti_Luint8 (by simp) rfl rfl rfl rfl rfl rfl rfl rfl rfl (by simp))) ?_
  refine ro rfl rfl (OpOk.step (ok_move (.inr rfl))) ?_
  refine ro_nil ?_
  refine keepK hK5 [2] (by dsimp) (by dsimp) ?_
  refine T.ret (hQ _ _ _ rfl ?_).1 -- ret 2
  exact TEnt.fin [1] (by decide) (by simp) rfl ⟨rfl, trivial⟩
theorem clone_cons (l : List Int) (hne : l ≠ []) (hl : l.length ≤ 140737488355328) : CSpec Try.prog 97 [] [.fz 1 (ints .u8 l)] [some ⟨1, true, ints .u8 l⟩] (.sl 0 0 l.length) := by
 refine CSpec.body Try.func97 rfl rfl rfl rfl rfl fun Q hQ => ?_
 refine T.seq fun K1 hK1 => ?_
 refine T.region ?_ -- region 0
 refine ro rfl rfl (OpOk.step (ok_move (.inr rfl))) ?_
 refine ro_nil ?_
 refine keepK hK1 [0] (by dsimp) (by dsimp) ?_
 refine T.seq fun K2 hK2 => ?_
 refine T.seq fun K3 hK3 => ?_
 refine T.region ?_ -- region 1
 refine ro rfl rfl (OpOk.step (ok_move (.inl rfl))) ?_
 refine ro rfl rfl (OpOk.step (OpOk.bool (d := false) (ok_nil_no rfl ti_Luint8 rfl (.inl rfl) rfl (by simpa [ints] using hne) rfl) (rfl))) ?_
 refine ro_nil ?_
 refine keepK hK3 [0, 4] (by dsimp) (by dsimp) ?_
 refine T.cond_false rfl ?_
 refine T.skip ?_
 refine keepK hK2 [0] (by dsimp) (by dsimp) ?_
 refine T.seq fun K4 hK4 => ?_
 refine T.region ?_ -- region 3
 refine ro rfl rfl (OpOk.step (ok_buildSlice (n := 0) (ps := #[]) rfl ti_Luint8 rfl ti_uint8 (by decide) rfl rfl (by decide) rfl rfl rfl)) ?_
 refine ro rfl rfl (OpOk.step (ok_move (.inl rfl))) ?_
 refine ro rfl rfl (OpOk.step (by exact ok_append_ints (k := .u8) (xs := []) (ys := l) rfl ti_Luint8 rfl ti_uint8 rfl (by decide) rfl ti_Luint8 (by simp) rfl rfl rfl rfl rfl rfl rfl rfl rfl (by simp; omega))) ?_
 refine ro rfl rfl (OpOk.step (ok_move (.inr rfl))) ?_
 refine ro_nil ?_
 refine keepK hK4 [2] (by dsimp) (by dsimp) ?_
 refine T.ret (hQ _ _ _ rfl ?_).1 -- ret 1
 exact TEnt.fin [1] (by decide) (by simp) (by simp [normH, hget, Blk.ren, renL_ints]) ⟨by simp [tupA]; rfl, trivial⟩
theorem clone_new (l : List Int) (hl : l.length ≤ 140737488355328) : CSpec Try.prog 97 [] [.fz 1 (ints .u8 l)] [some ⟨1, true, ints .u8 l⟩] (.sl 0 0 l.length) := by
  by_cases h : l = []
  · subst h; exact clone_nil
  · exact clone_cons l h hl
theorem clone_frz (l : List Int) (hl : l.length ≤ 140737488355328) : CSpec Try.prog 97 [] [.fz 1 (ints .u8 l)] [] (.fz 1 (ints .u8 l)) := (clone_new l hl).frz (by simp) (renL_ints _ _ _)
end Go.Proofs.Ytlegolcbjjjofaa.AmF
