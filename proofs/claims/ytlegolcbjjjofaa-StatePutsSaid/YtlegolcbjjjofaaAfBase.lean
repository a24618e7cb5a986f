/- Walks over the abstract machine: what the texts on records and scripts share. -/
import Derived.Test.YtlegolcbjjjofaaAfConfio
import Derived.Test.YtlegolcbjjjofaaAfBasea
namespace Go.Proofs.Ytlegolcbjjjofaa.AmF
open Go Go.AM
set_option maxRecDepth 100000
set_option linter.unusedSimpArgs false
set_option linter.unusedVariables false
attribute [local simp] tkeep tget tput ev cav argsTM pickA normT putA splice AV.cells ints_length rowsA_length enc_len
theorem rbytesput_new (l : List Int) (hl : l.length ≤ 100000000) : CSpec Try.prog 83 [] [.fz 1 (ints .u8 l)] [some ⟨1, true, ints .u8 (enc l.length 8 ++ l)⟩] (.sl 0 0 (enc l.length 8 ++ l).length) := by
 refine CSpec.body Try.func83 rfl rfl rfl rfl rfl fun Q hQ => ?_
 refine T.seq fun K1 hK1 => ?_
 refine T.region ?_ -- region 0
 refine ro rfl rfl (OpOk.step (ok_move (.inr rfl))) ?_
 refine ro_nil ?_
 refine keepK hK1 [0] (by dsimp) (by dsimp) ?_
 refine T.seq fun K2 hK2 => ?_
 refine T.region ?_ -- region 1
 refine ro rfl rfl (OpOk.step (ok_move (.inl rfl))) ?_
 refine ro rfl rfl (OpOk.step (ok_len' rfl rfl ti_Luint8 rfl (by first | exact ints_length _ _ | exact rowsA_length _ _ | exact Cms_len _ | exact mapLen _ | rfl))) ?_
 refine ro rfl rfl (ok_call rfl rfl rfl ((rint_new l.length).fresh (x' := .sl 0 0 8) (H' := [some ⟨1, true, ints .u8 (enc l.length 8)⟩]) rfl rfl (by simp [renH, Blk.ren, renL_ints]))) ?_
 refine ro rfl rfl (OpOk.step (ok_move (.inl rfl))) ?_
 refine ro rfl rfl (OpOk.step (by exact ok_append_ints (k := .u8) (xs := enc l.length 8) (ys := l) rfl ti_Luint8 rfl ti_uint8 rfl (by decide) rfl ti_Luint8 (by simp) rfl rfl rfl rfl rfl rfl rfl rfl rfl (by simp; omega))) ?_
 refine ro rfl rfl (OpOk.step (ok_move (.inr rfl))) ?_
 refine ro_nil ?_
 refine keepK hK2 [2] (by dsimp) (by dsimp) ?_
 refine T.ret (hQ _ _ _ rfl ?_).1 -- ret 1
 exact TEnt.fin [1] (by decide) (by simp) (by simp [normH, hget, Blk.ren, renL_ints]) ⟨rfl, trivial⟩
theorem rbytesput_frz {l r : List Int} (hr : enc l.length 8 ++ l = r) (hl : l.length ≤ 100000000) : CSpec Try.prog 83 [] [.fz 1 (ints .u8 l)] [] (.fz 1 (ints .u8 r)) := (rbytesput_new l hl).frz' hr
theorem rint_frz' {v : Int} {r : List Int} (hr : enc v 8 = r) : CSpec Try.prog 81 [] [.int v] [] (.fz 1 (ints .u8 r)) := hr ▸ rint_frz v
theorem R_ren (ρ : Nat → Option Nat) (l : List Int) (p : Nat) (e : Int) : Blk.ren ρ (R l p e) = R l p e := by simp [R, Blk.ren, renL, AV.ren, renL_ints]
/-- A call that is handed a reader. -/
theorem _root_.Go.AM.CSpec.passR {H : Heap} {f : FuncId} {l l' : List Int} {p p' : Nat} {e e' : Int} {args args' : List AV} {x : AV} (h : CSpec Try.prog f [R l p e] args' [some (R l' p' e')] x) (id : Nat) (hg : hget H id = some (R l p e)) (ha : renL (pos [id]) args = args') (hx : ∀ ρ, x.ren ρ = x) :
    CallOk Try.prog f H args x (H.set id (some (R l' p' e'))) := by
  have hid := hget_lt hg
  have := h.pass (H := H) (args := args) [id] (by simp) (by simpa using hid) (by simp [normH, hg, R_ren]) ha
  exact this.eq (hx _) (by simp [mergeH, setIds, renH, R_ren])
end Go.Proofs.Ytlegolcbjjjofaa.AmF
