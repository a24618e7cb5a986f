/- Walks over the abstract machine: states of the log: one in memory of its own. -/
import Derived.Test.YtlegolcbjjjofaaAfState4
import Derived.Test.YtlegolcbjjjofaaAfClone
namespace Go.Proofs.Ytlegolcbjjjofaa.AmF
open Go Go.AM
set_option maxRecDepth 100000
set_option maxHeartbeats 2000000
set_option linter.unusedSimpArgs false
set_option linter.unusedVariables false
attribute [local simp] tkeep tget tput ev cav argsTM pickA normT putA splice AV.cells ints_length rowsA_length Prs_len Zns_len
theorem sclone_nil : CSpec Try.prog 100 [] [.fz 1 (ints .i64 [])] [some ⟨1, true, ints .i64 []⟩] (.sl 0 0 0) := by
 refine CSpec.body Try.func100 rfl rfl rfl rfl rfl fun Q hQ => ?_
 refine T.seq fun K1 hK1 => ?_
 refine T.region ?_ -- region 0
 refine ro rfl rfl (OpOk.step (ok_move (.inr rfl))) ?_
 refine ro_nil ?_
 refine keepK hK1 [0] (by dsimp) (by dsimp) ?_
 refine T.seq fun K2 hK2 => ?_
 refine T.seq fun K3 hK3 => ?_
 refine T.region ?_ -- region 1
 refine ro rfl rfl (OpOk.step (ok_move (.inl rfl))) ?_
 refine ro rfl rfl (OpOk.step (ok_nil_ub rfl ti_Lint rfl (.inl rfl) rfl rfl)) ?_
 refine ro_nil ?_
 refine keepK hK3 [0, 4] (by dsimp) (by dsimp) ?_
 refine T.cond_ub rfl ?_ ?_
 ·(try simp only [dE] at hc)
  refine T.seq fun K4 hK4 => ?_
  refine T.region ?_ -- region 2
  refine ro rfl rfl (OpOk.step (ok_move (.inr rfl))) ?_
  refine ro_nil ?_
  refine keepK hK4 [2] (by dsimp) (by dsimp) ?_
  refine T.ret (hQ _ _ _ rfl ?_).1 -- ret 1
  exact ((TEnt.empty 0 1 (by decide) (.inr rfl)).trans (TEnt.fin [0] (by decide) (by simp) rfl ⟨rfl, trivial⟩))
 ·(try simp only [dE] at hc)
  refine T.skip ?_
  refine keepK hK2 [0] (by dsimp) (by dsimp) ?_
  refine T.seq fun K5 hK5 => ?_
  refine T.region ?_ -- region 3
  refine ro rfl rfl (OpOk.step (ok_buildSlice (n := 0) (ps := #[]) rfl ti_Lint rfl ti_int (by decide) rfl rfl (by decide) rfl rfl rfl)) ?_
  refine ro rfl rfl (OpOk.step (ok_move (.inl rfl))) ?_
  refine ro rfl rfl (OpOk.step (by exact ok_append_ints (k := .i64) (xs := []) (ys := []) rfl ti_Lint rfl ti_int rfl (by decide) rfl ti_Lint (by simp) rfl rfl rfl rfl rfl rfl rfl rfl rfl (by simp))) ?_
  refine ro rfl rfl (OpOk.step (ok_move (.inr rfl))) ?_
  refine ro_nil ?_
  refine keepK hK5 [2] (by dsimp) (by dsimp) ?_
  refine T.ret (hQ _ _ _ rfl ?_).1 -- ret 2
  exact TEnt.fin [1] (by decide) (by simp) rfl ⟨rfl, trivial⟩
theorem sclone_cons (l : List Int) (hne : l ≠ []) (hl : l.length ≤ 17592186044416) : CSpec Try.prog 100 [] [.fz 1 (ints .i64 l)] [some ⟨1, true, ints .i64 l⟩] (.sl 0 0 l.length) := by
 refine CSpec.body Try.func100 rfl rfl rfl rfl rfl fun Q hQ => ?_
 refine T.seq fun K1 hK1 => ?_
 refine T.region ?_ -- region 0
 refine ro rfl rfl (OpOk.step (ok_move (.inr rfl))) ?_
 refine ro_nil ?_
 refine keepK hK1 [0] (by dsimp) (by dsimp) ?_
 refine T.seq fun K2 hK2 => ?_
 refine T.seq fun K3 hK3 => ?_
 refine T.region ?_ -- region 1
 refine ro rfl rfl (OpOk.step (ok_move (.inl rfl))) ?_
 refine ro rfl rfl (OpOk.step (OpOk.bool (d := false) (ok_nil_no rfl ti_Lint rfl (.inl rfl) rfl (by simpa [ints] using hne) rfl) (rfl))) ?_
 refine ro_nil ?_
 refine keepK hK3 [0, 4] (by dsimp) (by dsimp) ?_
 refine T.cond_false rfl ?_
 refine T.skip ?_
 refine keepK hK2 [0] (by dsimp) (by dsimp) ?_
 refine T.seq fun K4 hK4 => ?_
 refine T.region ?_ -- region 3
 refine ro rfl rfl (OpOk.step (ok_buildSlice (n := 0) (ps := #[]) rfl ti_Lint rfl ti_int (by decide) rfl rfl (by decide) rfl rfl rfl)) ?_
 refine ro rfl rfl (OpOk.step (ok_move (.inl rfl))) ?_
 refine ro rfl rfl (OpOk.step (by exact ok_append_ints (k := .i64) (xs := []) (ys := l) rfl ti_Lint rfl ti_int rfl (by decide) rfl ti_Lint (by simp) rfl rfl rfl rfl rfl rfl rfl rfl rfl (by show (0 + l.length) * 8 ≤ _; omega))) ?_
 refine ro rfl rfl (OpOk.step (ok_move (.inr rfl))) ?_
 refine ro_nil ?_
 refine keepK hK4 [2] (by dsimp) (by dsimp) ?_
 refine T.ret (hQ _ _ _ rfl ?_).1 -- ret 1
 exact TEnt.fin [1] (by decide) (by simp) (by simp [normH, hget, Blk.ren, renL_ints]) ⟨by simp [tupA]; rfl, trivial⟩
theorem zclone_nil : CSpec Try.prog 101 [] [.fz 6 (Zns [])] [some ⟨6, true, Zns []⟩] (.sl 0 0 0) := by
 refine CSpec.body Try.func101 rfl rfl rfl rfl rfl fun Q hQ => ?_
 refine T.seq fun K1 hK1 => ?_
 refine T.region ?_ -- region 0
 refine ro rfl rfl (OpOk.step (ok_move (.inr rfl))) ?_
 refine ro_nil ?_
 refine keepK hK1 [0] (by dsimp) (by dsimp) ?_
 refine T.seq fun K2 hK2 => ?_
 refine T.seq fun K3 hK3 => ?_
 refine T.region ?_ -- region 1
 refine ro rfl rfl (OpOk.step (ok_move (.inl rfl))) ?_
 refine ro rfl rfl (OpOk.step (ok_nil_ub rfl ti_Lapi_Zone rfl (.inl rfl) rfl rfl)) ?_
 refine ro_nil ?_
 refine keepK hK3 [0, 4] (by dsimp) (by dsimp) ?_
 refine T.cond_ub rfl ?_ ?_
 ·(try simp only [dE] at hc)
  refine T.seq fun K4 hK4 => ?_
  refine T.region ?_ -- region 2
  refine ro rfl rfl (OpOk.step (ok_move (.inr rfl))) ?_
  refine ro_nil ?_
  refine keepK hK4 [2] (by dsimp) (by dsimp) ?_
  refine T.ret (hQ _ _ _ rfl ?_).1 -- ret 1
  exact ((TEnt.empty 0 6 (by decide) (.inr rfl)).trans (TEnt.fin [0] (by decide) (by simp) rfl ⟨rfl, trivial⟩))
 ·(try simp only [dE] at hc)
  refine T.skip ?_
  refine keepK hK2 [0] (by dsimp) (by dsimp) ?_
  refine T.seq fun K5 hK5 => ?_
  refine T.region ?_ -- region 3
  refine ro rfl rfl (OpOk.step (ok_buildSlice (n := 0) (ps := #[]) rfl ti_Lapi_Zone rfl ti_api_Zone (by decide) rfl rfl (by decide) rfl rfl rfl)) ?_
  refine ro rfl rfl (OpOk.step (ok_move (.inl rfl))) ?_
  refine ro rfl rfl (OpOk.step (by exact ok_append_map (fun z => .agg (ZnC z)) (xs := []) (ys := []) rfl ti_Lapi_Zone rfl ti_api_Zone (by decide) (by decide) rfl ti_Lapi_Zone (by simp) rfl rfl rfl rfl rfl rfl rfl rfl rfl (by simp))) ?_
  refine ro rfl rfl (OpOk.step (ok_move (.inr rfl))) ?_
  refine ro_nil ?_
  refine keepK hK5 [2] (by dsimp) (by dsimp) ?_
  refine T.ret (hQ _ _ _ rfl ?_).1 -- ret 2
  exact TEnt.fin [1] (by decide) (by simp) rfl ⟨rfl, trivial⟩
theorem zclone_cons (l : List Zn) (hne : l ≠ []) (hl : l.length ≤ 1000000000) : CSpec Try.prog 101 [] [.fz 6 (Zns l)] [some ⟨6, true, Zns l⟩] (.sl 0 0 l.length) := by
 refine CSpec.body Try.func101 rfl rfl rfl rfl rfl fun Q hQ => ?_
 refine T.seq fun K1 hK1 => ?_
 refine T.region ?_ -- region 0
 refine ro rfl rfl (OpOk.step (ok_move (.inr rfl))) ?_
 refine ro_nil ?_
 refine keepK hK1 [0] (by dsimp) (by dsimp) ?_
 refine T.seq fun K2 hK2 => ?_
 refine T.seq fun K3 hK3 => ?_
 refine T.region ?_ -- region 1
 refine ro rfl rfl (OpOk.step (ok_move (.inl rfl))) ?_
 refine ro rfl rfl (OpOk.step (OpOk.bool (d := false) (ok_nil_no rfl ti_Lapi_Zone rfl (.inl rfl) rfl (by simpa [Zns] using hne) rfl) (rfl))) ?_
 refine ro_nil ?_
 refine keepK hK3 [0, 4] (by dsimp) (by dsimp) ?_
 refine T.cond_false rfl ?_
 refine T.skip ?_
 refine keepK hK2 [0] (by dsimp) (by dsimp) ?_
 refine T.seq fun K4 hK4 => ?_
 refine T.region ?_ -- region 3
 refine ro rfl rfl (OpOk.step (ok_buildSlice (n := 0) (ps := #[]) rfl ti_Lapi_Zone rfl ti_api_Zone (by decide) rfl rfl (by decide) rfl rfl rfl)) ?_
 refine ro rfl rfl (OpOk.step (ok_move (.inl rfl))) ?_
 refine ro rfl rfl (OpOk.step (by exact ok_append_map (fun z => .agg (ZnC z)) (xs := []) (ys := l) rfl ti_Lapi_Zone rfl ti_api_Zone (by decide) (by decide) rfl ti_Lapi_Zone (by simp) rfl rfl rfl rfl rfl rfl rfl rfl rfl (by show (0 + l.length) * 64 ≤ _; omega))) ?_
 refine ro rfl rfl (OpOk.step (ok_move (.inr rfl))) ?_
 refine ro_nil ?_
 refine keepK hK4 [2] (by dsimp) (by dsimp) ?_
 refine T.ret (hQ _ _ _ rfl ?_).1 -- ret 1
 exact TEnt.fin [1] (by decide) (by simp) (by simp [normH, hget, Blk.ren]; exact Zns_ren _ _) ⟨by simp [tupA]; rfl, trivial⟩
theorem pclone_nil : CSpec Try.prog 102 [] [.fz 2 (Prs [])] [some ⟨2, true, Prs []⟩] (.sl 0 0 0) := by
 refine CSpec.body Try.func102 rfl rfl rfl rfl rfl fun Q hQ => ?_
 refine T.seq fun K1 hK1 => ?_
 refine T.region ?_ -- region 0
 refine ro rfl rfl (OpOk.step (ok_move (.inr rfl))) ?_
 refine ro_nil ?_
 refine keepK hK1 [0] (by dsimp) (by dsimp) ?_
 refine T.seq fun K2 hK2 => ?_
 refine T.seq fun K3 hK3 => ?_
 refine T.region ?_ -- region 1
 refine ro rfl rfl (OpOk.step (ok_move (.inl rfl))) ?_
 refine ro rfl rfl (OpOk.step (ok_nil_ub rfl ti_Lapi_Par rfl (.inl rfl) rfl rfl)) ?_
 refine ro_nil ?_
 refine keepK hK3 [0, 4] (by dsimp) (by dsimp) ?_
 refine T.cond_ub rfl ?_ ?_
 ·(try simp only [dE] at hc)
  refine T.seq fun K4 hK4 => ?_
  refine T.region ?_ -- region 2
  refine ro rfl rfl (OpOk.step (ok_move (.inr rfl))) ?_
  refine ro_nil ?_
  refine keepK hK4 [2] (by dsimp) (by dsimp) ?_
  refine T.ret (hQ _ _ _ rfl ?_).1 -- ret 1
  exact ((TEnt.empty 0 2 (by decide) (.inr rfl)).trans (TEnt.fin [0] (by decide) (by simp) rfl ⟨rfl, trivial⟩))
 ·(try simp only [dE] at hc)
  refine T.skip ?_
  refine keepK hK2 [0] (by dsimp) (by dsimp) ?_
  refine T.seq fun K5 hK5 => ?_
  refine T.region ?_ -- region 3
  refine ro rfl rfl (OpOk.step (ok_buildSlice (n := 0) (ps := #[]) rfl ti_Lapi_Par rfl ti_api_Par (by decide) rfl rfl (by decide) rfl rfl rfl)) ?_
  refine ro rfl rfl (OpOk.step (ok_move (.inl rfl))) ?_
  refine ro rfl rfl (OpOk.step (by exact ok_append_map (fun p => .agg (PrC p)) (xs := []) (ys := []) rfl ti_Lapi_Par rfl ti_api_Par (by decide) (by decide) rfl ti_Lapi_Par (by simp) rfl rfl rfl rfl rfl rfl rfl rfl rfl (by simp))) ?_
  refine ro rfl rfl (OpOk.step (ok_move (.inr rfl))) ?_
  refine ro_nil ?_
  refine keepK hK5 [2] (by dsimp) (by dsimp) ?_
  refine T.ret (hQ _ _ _ rfl ?_).1 -- ret 2
  exact TEnt.fin [1] (by decide) (by simp) rfl ⟨rfl, trivial⟩
theorem pclone_cons (l : List Pr) (hne : l ≠ []) (hl : l.length ≤ 1000000000) : CSpec Try.prog 102 [] [.fz 2 (Prs l)] [some ⟨2, true, Prs l⟩] (.sl 0 0 l.length) := by
 refine CSpec.body Try.func102 rfl rfl rfl rfl rfl fun Q hQ => ?_
 refine T.seq fun K1 hK1 => ?_
 refine T.region ?_ -- region 0
 refine ro rfl rfl (OpOk.step (ok_move (.inr rfl))) ?_
 refine ro_nil ?_
 refine keepK hK1 [0] (by dsimp) (by dsimp) ?_
 refine T.seq fun K2 hK2 => ?_
 refine T.seq fun K3 hK3 => ?_
 refine T.region ?_ -- region 1
 refine ro rfl rfl (OpOk.step (ok_move (.inl rfl))) ?_
 refine ro rfl rfl (OpOk.step (OpOk.bool (d := false) (ok_nil_no rfl ti_Lapi_Par rfl (.inl rfl) rfl (by simpa [Prs] using hne) rfl) (rfl))) ?_
 refine ro_nil ?_
 refine keepK hK3 [0, 4] (by dsimp) (by dsimp) ?_
 refine T.cond_false rfl ?_
 refine T.skip ?_
 refine keepK hK2 [0] (by dsimp) (by dsimp) ?_
 refine T.seq fun K4 hK4 => ?_
 refine T.region ?_ -- region 3
 refine ro rfl rfl (OpOk.step (ok_buildSlice (n := 0) (ps := #[]) rfl ti_Lapi_Par rfl ti_api_Par (by decide) rfl rfl (by decide) rfl rfl rfl)) ?_
 refine ro rfl rfl (OpOk.step (ok_move (.inl rfl))) ?_
 refine ro rfl rfl (OpOk.step (by exact ok_append_map (fun p => .agg (PrC p)) (xs := []) (ys := l) rfl ti_Lapi_Par rfl ti_api_Par (by decide) (by decide) rfl ti_Lapi_Par (by simp) rfl rfl rfl rfl rfl rfl rfl rfl rfl (by show (0 + l.length) * 32 ≤ _; omega))) ?_
 refine ro rfl rfl (OpOk.step (ok_move (.inr rfl))) ?_
 refine ro_nil ?_
 refine keepK hK4 [2] (by dsimp) (by dsimp) ?_
 refine T.ret (hQ _ _ _ rfl ?_).1 -- ret 1
 exact TEnt.fin [1] (by decide) (by simp) (by simp [normH, hget, Blk.ren]; exact Prs_ren _ _) ⟨by simp [tupA]; rfl, trivial⟩
theorem sclone_new (l : List Int) (hl : l.length ≤ 17592186044416) : CSpec Try.prog 100 [] [.fz 1 (ints .i64 l)] [some ⟨1, true, ints .i64 l⟩] (.sl 0 0 l.length) := by
  by_cases h : l = []
  · subst h; exact sclone_nil
  · exact sclone_cons l h hl
theorem zclone_new (l : List Zn) (hl : l.length ≤ 1000000000) : CSpec Try.prog 101 [] [.fz 6 (Zns l)] [some ⟨6, true, Zns l⟩] (.sl 0 0 l.length) := by
  by_cases h : l = []
  · subst h; exact zclone_nil
  · exact zclone_cons l h hl
theorem pclone_new (l : List Pr) (hl : l.length ≤ 1000000000) : CSpec Try.prog 102 [] [.fz 2 (Prs l)] [some ⟨2, true, Prs l⟩] (.sl 0 0 l.length) := by
  by_cases h : l = []
  · subst h; exact pclone_nil
  · exact pclone_cons l h hl
end Go.Proofs.Ytlegolcbjjjofaa.AmF
