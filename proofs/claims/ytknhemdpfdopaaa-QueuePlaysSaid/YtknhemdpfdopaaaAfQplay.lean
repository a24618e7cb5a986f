/- Walks over the abstract machine: a queue of numbers. -/
import Derived.Test.YtknhemdpfdopaaaAfQueue4
namespace Go.Proofs.Ytknhemdpfdopaaa.AmF
open Go Go.AM
set_option maxRecDepth 100000
set_option linter.unusedSimpArgs false
set_option linter.unusedVariables false
attribute [local simp] tkeep tget tput ev cav argsTM pickA normT putA splice AV.cells ints_length rowsA_length
/-- A nil row ahead in a struct, as an empty block of its own. -/
theorem _root_.Go.AM.TEnt.emptyAgg {k : Nat} {tm : TM} {H : Heap} (t es : Nat) (he : 0 < es) {rest : List AV} (h : tget tm t = .agg (.v (.slice none 0 0) :: rest)) : TEnt k tm H ((t, .agg (.sl H.length 0 0 :: rest)) :: tm) (H ++ [some ⟨es, true, []⟩]) := by
  intro g vs hH hk hg ht
  subst hH
  obtain ⟨hgv, hsv⟩ := vpush_ok he hg
  refine ⟨g.vpush es, rfl, rfl, hgv, fun t' => ?_, hsv.ext, hsv.pin hk⟩
  simp only [tget]
  by_cases ht' : t = t'
  · subst ht'
    rw [if_pos rfl]
    have hr := Rel.mono hsv.ren (ht t)
    rw [h] at hr
    simp only [Rel, RelL] at hr ⊢
    obtain ⟨cs, e1, z, zs, e2, e3, e4⟩ := hr
    refine ⟨cs, e1, z, zs, e2, ⟨by simp [G.vpush], none, 0, e3, fun k' hk' => ⟨Nat.le_refl _, ?_, fun h => absurd rfl h⟩⟩, e4⟩
    have e1 : (g.vpush es).sz g.H.length = 0 := by simp [G.vpush]
    have e2 : (g.vpush es).bs g.H.length = 0 := by simp [G.vpush]
    rw [e1, e2]; simp
  · rw [if_neg ht']
    exact Rel.mono hsv.ren (ht t')
/-- A queue: where its row lies, its length, the room. -/
def QQ (off n : Nat) (room : Int) : Blk := ⟨2, true, [.agg [.sl 1 off n, .int room]]⟩
def IB (l : List Int) : Blk := ⟨1, true, ints .i64 l⟩
def rm (r : Int) : Int := min (max r 0) 65536
theorem qnew_ok (r : Int) : CSpec Try.prog 32 [] [.int r] [some (QQ 0 0 (rm r)), some (IB [])] (.ref 0 0 0) := by
  refine CSpec.body Try.func32 rfl rfl rfl rfl rfl fun Q hQ => ?_
  refine T.seq fun K1 hK1 => ?_
  refine T.region ?_ -- region 0
  refine ro rfl rfl (OpOk.step (ok_move (.inr rfl))) ?_
  refine ro_nil ?_
  refine keepK hK1 [0] (by dsimp) (by dsimp) ?_
  refine T.seq fun K2 hK2 => ?_
  refine T.region ?_ -- region 1
  refine ro rfl rfl (OpOk.step (ok_move (.inl rfl))) ?_
  refine ro rfl rfl (OpOk.step (ok_max rfl rfl rfl)) ?_
  refine ro rfl rfl (OpOk.step (ok_min rfl rfl rfl)) ?_
  refine ro rfl rfl (OpOk.step (((ok_build rfl ti_queue_Queue_int_ rfl).eq (x' := .agg [.v (.slice none 0 0), .int (rm r)]) rfl rfl).tent ((TEnt.emptyAgg (rest := [.int (rm r)]) 0 1 (by decide) rfl).trans (TEnt.to (tm' := [(0, .agg [.sl 0 0 0, .int (rm r)])]) ⟨rfl, trivial⟩)))) ?_
  refine ro rfl rfl (OpOk.step (ok_box (n := 2) rfl rfl (by decide))) ?_
  refine ro rfl rfl (OpOk.step (ok_move (.inr rfl))) ?_
  refine ro_nil ?_
  refine keepK hK2 [2] (by dsimp) (by dsimp) ?_
  refine T.ret (hQ _ _ _ rfl ?_).1 -- ret 1
  exact TEnt.fin [1, 0] (by decide) (by simp) rfl ⟨rfl, trivial⟩
theorem qlen_ok (j l : List Int) (r : Int) : CSpec Try.prog 36 [QQ j.length l.length r, IB (j ++ l)] [.ref 0 0 0] [some (QQ j.length l.length r), some (IB (j ++ l))] (.int l.length) := by
  refine CSpec.body Try.func36 rfl rfl rfl rfl rfl fun Q hQ => ?_
  refine T.seq fun K1 hK1 => ?_
  refine T.region ?_ -- region 0
  refine ro rfl rfl (OpOk.step (ok_move (.inr rfl))) ?_
  refine ro_nil ?_
  refine keepK hK1 [0] (by dsimp) (by dsimp) ?_
  refine T.seq fun K2 hK2 => ?_
  refine T.seq fun K3 hK3 => ?_
  refine T.region ?_ -- region 1
  refine ro rfl rfl (OpOk.step (ok_move (.inl rfl))) ?_
  refine ro rfl rfl (OpOk.step (OpOk.bool (d := false) (ok_binOp rfl ti_Pqueue_Queue_int_ rfl) (rfl))) ?_
  refine ro_nil ?_
  refine keepK hK3 [0, 4] (by dsimp) (by dsimp) ?_
  refine T.cond_false rfl ?_
  refine T.skip ?_
  refine keepK hK2 [0] (by dsimp) (by dsimp) ?_
  refine T.seq fun K4 hK4 => ?_
  refine T.region ?_ -- region 3
  refine ro rfl rfl (OpOk.step (ok_move (.inl rfl))) ?_
  refine ro rfl rfl (OpOk.step (ok_nilCheck rfl rfl)) ?_
  refine ro rfl rfl (OpOk.step (ok_fieldAddr rfl ti_queue_Queue_int_ rfl rfl ti_Lint (by decide) rfl)) ?_
  refine ro rfl rfl (OpOk.step (ok_load rfl ti_Lint rfl rfl)) ?_
  refine ro rfl rfl (OpOk.step (ok_len' rfl rfl ti_Lint rfl (by first | exact ints_length _ _ | exact rowsA_length _ _ | exact Cms_len _ | exact mapLen _ | rfl))) ?_
  refine ro rfl rfl (OpOk.step (ok_move (.inr rfl))) ?_
  refine ro_nil ?_
  refine keepK hK4 [2] (by dsimp) (by dsimp) ?_
  refine T.ret (hQ _ _ _ rfl ?_).1 -- ret 1
  exact TEnt.toH rfl ⟨rfl, trivial⟩
theorem iclone_nil : CSpec Try.prog 84 [] [.fz 1 (ints .i64 [])] [some ⟨1, true, ints .i64 []⟩] (.sl 0 0 0) := by
  refine CSpec.body Try.func84 rfl rfl rfl rfl rfl fun Q hQ => ?_
  refine T.seq fun K1 hK1 => ?_
  refine T.region ?_ -- region 0
  refine ro rfl rfl (OpOk.step (ok_move (.inr rfl))) ?_
  refine ro_nil ?_
  refine keepK hK1 [0] (by dsimp) (by dsimp) ?_
  refine T.seq fun K2 hK2 => ?_
  refine T.seq fun K3 hK3 => ?_
  refine T.region ?_ -- region 1
  refine ro rfl rfl (OpOk.step (ok_move (.inl rfl))) ?_
  refine ro rfl rfl (OpOk.step (ok_nil_ub rfl ti_Lint rfl (.inl rfl) rfl rfl)) ?_
  refine ro_nil ?_
  refine keepK hK3 [0, 4] (by dsimp) (by dsimp) ?_
  refine T.cond_ub rfl ?_ ?_
  · (try simp only [decide_eq_true_eq, decide_eq_false_iff_not, beq_iff_eq, beq_eq_false_iff_ne, bne_iff_ne, bne_eq_false_iff_eq, ne_eq, Bool.not_eq_true', Bool.not_eq_false'] at hc)
    refine T.seq fun K4 hK4 => ?_
    refine T.region ?_ -- region 2
    refine ro rfl rfl (OpOk.step (ok_move (.inr rfl))) ?_
    refine ro_nil ?_
    refine keepK hK4 [2] (by dsimp) (by dsimp) ?_
    refine T.ret (hQ _ _ _ rfl ?_).1 -- ret 1
    exact ((TEnt.empty 0 1 (by decide) (.inr rfl)).trans (TEnt.fin [0] (by decide) (by simp) rfl ⟨rfl, trivial⟩))
  · (try simp only [decide_eq_true_eq, decide_eq_false_iff_not, beq_iff_eq, beq_eq_false_iff_ne, bne_iff_ne, bne_eq_false_iff_eq, ne_eq, Bool.not_eq_true', Bool.not_eq_false'] at hc)
    refine T.skip ?_
    refine keepK hK2 [0] (by dsimp) (by dsimp) ?_
    refine T.seq fun K5 hK5 => ?_
    refine T.region ?_ -- region 3
    refine ro rfl rfl (OpOk.step (ok_buildSlice (n := 0) (ps := #[]) rfl ti_Lint rfl ti_int (by decide) rfl rfl (by decide) rfl rfl rfl)) ?_
    refine ro rfl rfl (OpOk.step (ok_move (.inl rfl))) ?_
    refine ro rfl rfl (OpOk.step (by exact ok_append_ints (k := .i64) (xs := []) (ys := []) rfl ti_Lint rfl ti_int rfl (by decide) rfl ti_Lint (by simp) rfl rfl rfl rfl rfl rfl rfl rfl rfl (by simp))) ?_
    refine ro rfl rfl (OpOk.step (ok_move (.inr rfl))) ?_
    refine ro_nil ?_
    refine keepK hK5 [2] (by dsimp) (by dsimp) ?_
    refine T.ret (hQ _ _ _ rfl ?_).1 -- ret 2
    exact TEnt.fin [1] (by decide) (by simp) rfl ⟨rfl, trivial⟩
theorem iclone_cons (l : List Int) (hne : l ≠ []) (hl : l.length ≤ 17592186044416) : CSpec Try.prog 84 [] [.fz 1 (ints .i64 l)] [some ⟨1, true, ints .i64 l⟩] (.sl 0 0 l.length) := by
  refine CSpec.body Try.func84 rfl rfl rfl rfl rfl fun Q hQ => ?_
  refine T.seq fun K1 hK1 => ?_
  refine T.region ?_ -- region 0
  refine ro rfl rfl (OpOk.step (ok_move (.inr rfl))) ?_
  refine ro_nil ?_
  refine keepK hK1 [0] (by dsimp) (by dsimp) ?_
  refine T.seq fun K2 hK2 => ?_
  refine T.seq fun K3 hK3 => ?_
  refine T.region ?_ -- region 1
  refine ro rfl rfl (OpOk.step (ok_move (.inl rfl))) ?_
  refine ro rfl rfl (OpOk.step (OpOk.bool (d := false) (ok_nil_no rfl ti_Lint rfl (.inl rfl) rfl (by simpa [ints] using hne) rfl) (rfl))) ?_
  refine ro_nil ?_
  refine keepK hK3 [0, 4] (by dsimp) (by dsimp) ?_
  refine T.cond_false rfl ?_
  refine T.skip ?_
  refine keepK hK2 [0] (by dsimp) (by dsimp) ?_
  refine T.seq fun K4 hK4 => ?_
  refine T.region ?_ -- region 3
  refine ro rfl rfl (OpOk.step (ok_buildSlice (n := 0) (ps := #[]) rfl ti_Lint rfl ti_int (by decide) rfl rfl (by decide) rfl rfl rfl)) ?_
  refine ro rfl rfl (OpOk.step (ok_move (.inl rfl))) ?_
  refine ro rfl rfl (OpOk.step (by exact ok_append_ints (k := .i64) (xs := []) (ys := l) rfl ti_Lint rfl ti_int rfl (by decide) rfl ti_Lint (by simp) rfl rfl rfl rfl rfl rfl rfl rfl rfl (by show (0 + l.length) * 8 ≤ _; omega))) ?_
  refine ro rfl rfl (OpOk.step (ok_move (.inr rfl))) ?_
  refine ro_nil ?_
  refine keepK hK4 [2] (by dsimp) (by dsimp) ?_
  refine T.ret (hQ _ _ _ rfl ?_).1 -- ret 1
  exact TEnt.fin [1] (by decide) (by simp) (by simp [normH, hget, Blk.ren, renL_ints]) ⟨by simp [tupA]; rfl, trivial⟩
theorem iclone_new (l : List Int) (hl : l.length ≤ 17592186044416) : CSpec Try.prog 84 [] [.fz 1 (ints .i64 l)] [some ⟨1, true, ints .i64 l⟩] (.sl 0 0 l.length) := by
  by_cases h : l = []
  · subst h; exact iclone_nil
  · exact iclone_cons l h hl
theorem iclone_frz (l : List Int) (hl : l.length ≤ 17592186044416) : CSpec Try.prog 84 [] [.fz 1 (ints .i64 l)] [] (.fz 1 (ints .i64 l)) := (iclone_new l hl).frz (by simp) (renL_ints _ _ _)
theorem ints_tail {k : IntKind} (j l : List Int) : ((ints k (j ++ l)).drop j.length).take l.length = ints k l := by
  rw [ints_drop, ints_take]; simp
theorem qall_ok (j l : List Int) (r : Int) (hl : l.length ≤ 17592186044416) : CSpec Try.prog 35 [QQ j.length l.length r, IB (j ++ l)] [.ref 0 0 0] [some (QQ j.length l.length r), some (IB (j ++ l)), some (IB l)] (.sl 2 0 l.length) := by
  refine CSpec.body Try.func35 rfl rfl rfl rfl rfl fun Q hQ => ?_
  refine T.seq fun K1 hK1 => ?_
  refine T.region ?_ -- region 0
  refine ro rfl rfl (OpOk.step (ok_move (.inr rfl))) ?_
  refine ro_nil ?_
  refine keepK hK1 [0] (by dsimp) (by dsimp) ?_
  refine T.seq fun K2 hK2 => ?_
  refine T.seq fun K3 hK3 => ?_
  refine T.region ?_ -- region 1
  refine ro rfl rfl (OpOk.step (ok_move (.inl rfl))) ?_
  refine ro rfl rfl (OpOk.step (OpOk.bool (d := false) (ok_binOp rfl ti_Pqueue_Queue_int_ rfl) (rfl))) ?_
  refine ro_nil ?_
  refine keepK hK3 [0, 4] (by dsimp) (by dsimp) ?_
  refine T.cond_false rfl ?_
  refine T.skip ?_
  refine keepK hK2 [0] (by dsimp) (by dsimp) ?_
  refine T.seq fun K4 hK4 => ?_
  refine T.region ?_ -- region 3
  refine ro rfl rfl (OpOk.step (ok_move (.inl rfl))) ?_
  refine ro rfl rfl (OpOk.step (ok_nilCheck rfl rfl)) ?_
  refine ro rfl rfl (OpOk.step (ok_fieldAddr rfl ti_queue_Queue_int_ rfl rfl ti_Lint (by decide) rfl)) ?_
  refine ro rfl rfl (OpOk.step (ok_load rfl ti_Lint rfl rfl)) ?_
  refine ro rfl rfl (ok_call rfl rfl rfl ((iclone_new l hl).lendI (EntL.cons ((Ent.sl (off := j.length) (len := l.length) (b := ⟨1, false, ints .i64 (j ++ l)⟩) rfl rfl (by simp)).trans (by rw [show (Blk.els ⟨1, false, ints .i64 (j ++ l)⟩) = ints .i64 (j ++ l) from rfl, ints_tail]; exact Ent.refl _)) EntL.nil) (by simp [renL, AV.ren, renL_ints]))) ?_
  refine ro rfl rfl (OpOk.step (ok_move (.inr rfl))) ?_
  refine ro_nil ?_
  refine keepK hK4 [2] (by dsimp) (by dsimp) ?_
  refine T.ret (hQ _ _ _ rfl ?_).1 -- ret 1
  exact TEnt.toH rfl ⟨rfl, trivial⟩
theorem qpush_full (j l : List Int) (r x : Int) (hr : r ≤ l.length) : CSpec Try.prog 33 [QQ j.length l.length r, IB (j ++ l)] [.ref 0 0 0, .int x] [some (QQ j.length l.length r), some (IB (j ++ l))] (.b false) := by
  refine CSpec.body Try.func33 rfl rfl rfl rfl rfl fun Q hQ => ?_
  refine T.seq fun K1 hK1 => ?_
  refine T.region ?_ -- region 0
  refine ro rfl rfl (OpOk.step (ok_moveb (c := false) (.inr rfl) rfl)) ?_
  refine ro_nil ?_
  refine keepK hK1 [0, 1] (by dsimp) (by dsimp) ?_
  refine T.seq fun K2 hK2 => ?_
  refine T.seq fun K3 hK3 => ?_
  refine T.drawH mixed [] ?_ -- region 1
  refine any_take 0 rfl (by first | rfl | decide +kernel) rfl (HeldL.refl _) (fun H' hH => OpOk.step (ok_move (.inl rfl))) ?_
  refine any_take 1 rfl (by first | rfl | decide +kernel) rfl (HeldL.refl _) (fun H' hH => OpOk.step (ok_binOp rfl ti_Pqueue_Queue_int_ rfl)) ?_
  refine any_take 2 rfl (by first | rfl | decide +kernel) rfl (HeldL.refl _) (fun H' hH => OpOk.step (OpOk.bool (d := false) (ok_moveb (.inl rfl) rfl) (rfl))) ?_
  refine any_take 3 rfl (by first | rfl | decide +kernel) rfl (HeldL.refl _) (fun H' hH => OpOk.step (ok_move (.inl rfl))) ?_
  refine any_take 4 rfl (by first | rfl | decide +kernel) rfl (HeldL.refl _) (fun H' hH => OpOk.step (ok_nilCheck rfl rfl)) ?_
  refine any_take 5 rfl (by first | rfl | decide +kernel) rfl (HeldL.refl _) (fun H' hH => OpOk.step (ok_fieldAddr rfl ti_queue_Queue_int_ rfl rfl ti_Lint (by decide) rfl)) ?_
  refine any_take 6 rfl (by first | rfl | decide +kernel) rfl (HeldL.refl _) (fun H' hH => OpOk.step (ok_load rfl ti_Lint (locA_held hH rfl) rfl)) ?_
  refine any_take 7 rfl (by first | rfl | decide +kernel) rfl (HeldL.refl _) (fun H' hH => OpOk.step (ok_len' rfl rfl ti_Lint rfl (by first | exact ints_length _ _ | exact rowsA_length _ _ | exact Cms_len _ | exact mapLen _ | rfl))) ?_
  refine any_take 8 rfl (by first | rfl | decide +kernel) rfl (HeldL.refl _) (fun H' hH => OpOk.step (ok_move (.inl rfl))) ?_
  refine any_take 9 rfl (by first | rfl | decide +kernel) rfl (HeldL.refl _) (fun H' hH => OpOk.step (ok_nilCheck rfl rfl)) ?_
  refine any_take 10 rfl (by first | rfl | decide +kernel) rfl (HeldL.refl _) (fun H' hH => OpOk.step (ok_fieldAddr rfl ti_queue_Queue_int_ rfl rfl ti_int (by decide) rfl)) ?_
  refine any_take 11 rfl (by first | rfl | decide +kernel) rfl (HeldL.refl _) (fun H' hH => OpOk.step (ok_load rfl ti_int (locA_held hH rfl) rfl)) ?_
  refine any_take 12 rfl (by first | rfl | decide +kernel) rfl (HeldL.refl _) (fun H' hH => OpOk.step (OpOk.bool (d := true) (ok_binOp rfl ti_int rfl) (by simp; omega))) ?_
  refine any_take 13 rfl (by first | rfl | decide +kernel) rfl (HeldL.refl _) (fun H' hH => OpOk.step (OpOk.bool (d := true) (ok_pickb rfl rfl rfl) (rfl))) ?_
  refine any_done rfl ?_
  refine keepK hK3 [0, 1, 18] (by dsimp) (by dsimp) ?_
  refine T.cond_true rfl ?_
  refine T.seq fun K4 hK4 => ?_
  refine T.region ?_ -- region 2
  refine ro rfl rfl (OpOk.step (ok_moveb (c := false) (.inr rfl) rfl)) ?_
  refine ro_nil ?_
  refine keepK hK4 [4] (by dsimp) (by dsimp) ?_
  refine T.ret (hQ _ _ _ rfl ?_).1 -- ret 1
  exact TEnt.toH rfl ⟨rfl, trivial⟩
theorem qpush_ok (j l : List Int) (r x : Int) (hr : (l.length : Int) < r) (hl : l.length ≤ 1000000) : CSpec Try.prog 33 [QQ j.length l.length r, IB (j ++ l)] [.ref 0 0 0, .int x] [some ⟨2, true, [.agg [.sl 2 0 (l ++ [x]).length, .int r]]⟩, none, some (IB (l ++ [x]))] (.b true) := by
  refine CSpec.body Try.func33 rfl rfl rfl rfl rfl fun Q hQ => ?_
  refine T.seq fun K1 hK1 => ?_
  refine T.region ?_ -- region 0
  refine ro rfl rfl (OpOk.step (ok_moveb (c := false) (.inr rfl) rfl)) ?_
  refine ro_nil ?_
  refine keepK hK1 [0, 1] (by dsimp) (by dsimp) ?_
  refine T.seq fun K2 hK2 => ?_
  refine T.seq fun K3 hK3 => ?_
  refine T.drawH mixed [] ?_ -- region 1
  refine any_take 0 rfl (by first | rfl | decide +kernel) rfl (HeldL.refl _) (fun H' hH => OpOk.step (ok_move (.inl rfl))) ?_
  refine any_take 1 rfl (by first | rfl | decide +kernel) rfl (HeldL.refl _) (fun H' hH => OpOk.step (ok_binOp rfl ti_Pqueue_Queue_int_ rfl)) ?_
  refine any_take 2 rfl (by first | rfl | decide +kernel) rfl (HeldL.refl _) (fun H' hH => OpOk.step (OpOk.bool (d := false) (ok_moveb (.inl rfl) rfl) (rfl))) ?_
  refine any_take 3 rfl (by first | rfl | decide +kernel) rfl (HeldL.refl _) (fun H' hH => OpOk.step (ok_move (.inl rfl))) ?_
  refine any_take 4 rfl (by first | rfl | decide +kernel) rfl (HeldL.refl _) (fun H' hH => OpOk.step (ok_nilCheck rfl rfl)) ?_
  refine any_take 5 rfl (by first | rfl | decide +kernel) rfl (HeldL.refl _) (fun H' hH => OpOk.step (ok_fieldAddr rfl ti_queue_Queue_int_ rfl rfl ti_Lint (by decide) rfl)) ?_
  refine any_take 6 rfl (by first | rfl | decide +kernel) rfl (HeldL.refl _) (fun H' hH => OpOk.step (ok_load rfl ti_Lint (locA_held hH rfl) rfl)) ?_
  refine any_take 7 rfl (by first | rfl | decide +kernel) rfl (HeldL.refl _) (fun H' hH => OpOk.step (ok_len' rfl rfl ti_Lint rfl (by first | exact ints_length _ _ | exact rowsA_length _ _ | exact Cms_len _ | exact mapLen _ | rfl))) ?_
  refine any_take 8 rfl (by first | rfl | decide +kernel) rfl (HeldL.refl _) (fun H' hH => OpOk.step (ok_move (.inl rfl))) ?_
  refine any_take 9 rfl (by first | rfl | decide +kernel) rfl (HeldL.refl _) (fun H' hH => OpOk.step (ok_nilCheck rfl rfl)) ?_
  refine any_take 10 rfl (by first | rfl | decide +kernel) rfl (HeldL.refl _) (fun H' hH => OpOk.step (ok_fieldAddr rfl ti_queue_Queue_int_ rfl rfl ti_int (by decide) rfl)) ?_
  refine any_take 11 rfl (by first | rfl | decide +kernel) rfl (HeldL.refl _) (fun H' hH => OpOk.step (ok_load rfl ti_int (locA_held hH rfl) rfl)) ?_
  refine any_take 12 rfl (by first | rfl | decide +kernel) rfl (HeldL.refl _) (fun H' hH => OpOk.step (OpOk.bool (d := false) (ok_binOp rfl ti_int rfl) (by simp; omega))) ?_
  refine any_take 13 rfl (by first | rfl | decide +kernel) rfl (HeldL.refl _) (fun H' hH => OpOk.step (OpOk.bool (d := false) (ok_pickb rfl rfl rfl) (rfl))) ?_
  refine any_done rfl ?_
  refine keepK hK3 [0, 1, 18] (by dsimp) (by dsimp) ?_
  refine T.cond_false rfl ?_
  refine T.skip ?_
  refine keepK hK2 [0, 1] (by dsimp) (by dsimp) ?_
  refine T.seq fun K4 hK4 => ?_
  refine T.region ?_ -- region 3
  refine ro rfl rfl (OpOk.step (ok_move (.inl rfl))) ?_
  refine ro rfl rfl (OpOk.step (ok_move (.inl rfl))) ?_
  refine ro rfl rfl (OpOk.step (ok_nilCheck rfl rfl)) ?_
  refine ro rfl rfl (OpOk.step (ok_fieldAddr rfl ti_queue_Queue_int_ rfl rfl ti_Lint (by decide) rfl)) ?_
  refine ro rfl rfl (OpOk.step (ok_load rfl ti_Lint rfl rfl)) ?_
  refine ro rfl rfl (OpOk.step (ok_move (.inl rfl))) ?_
  refine ro rfl rfl (OpOk.step (ok_buildSlice (n := 1) (ps := #[(0, .tmp 24)]) rfl ti_Lint rfl ti_int (by decide) rfl rfl (by decide) rfl rfl rfl)) ?_
  refine ro rfl rfl (OpOk.step ((ok_append_sl rfl ti_Lint rfl ti_int (by decide) (by decide) rfl ti_Lint (by simp) (rowA_sl rfl rfl (by simp)) (.inl rfl) rfl rfl rfl rfl (by simp [IB]) (by show (_ + 1) * 8 ≤ _; omega)).eq (x' := .sl 3 0 (l ++ [x]).length) (H'' := [some (QQ j.length l.length r), none, some (IB [x]), some (IB (l ++ [x]))]) (by simp) (by simp [IB, ints]))) ?_
  refine ro rfl rfl (OpOk.step (ok_nilCheck rfl rfl)) ?_
  refine ro rfl rfl (OpOk.step (ok_fieldAddr rfl ti_queue_Queue_int_ rfl rfl ti_Lint (by decide) rfl)) ?_
  refine ro rfl rfl (OpOk.step ((ok_store rfl ti_Lint (by decide) rfl rfl rfl rfl rfl (Nat.le_of_ble_eq_true rfl) (.inr rfl)).eq (x' := .any) (H'' := [some ⟨2, true, [.agg [.sl 3 0 (l ++ [x]).length, .int r]]⟩, none, some (IB [x]), some (IB (l ++ [x]))]) rfl rfl)) ?_
  refine ro_nil ?_
  refine keepK hK4 [] (by dsimp) (by dsimp) ?_
  refine T.seq fun K5 hK5 => ?_
  refine T.region ?_ -- region 4
  refine ro rfl rfl (OpOk.step (ok_moveb (c := true) (.inr rfl) rfl)) ?_
  refine ro_nil ?_
  refine keepK hK5 [4] (by dsimp) (by dsimp) ?_
  refine T.ret (hQ _ _ _ rfl ?_).1 -- ret 1
  exact TEnt.fin [0, 1, 3] (by decide) (by intro m hm; rcases m with _ | _ | m <;> first | rfl | (simp at hm; omega)) (by simp [normH, hget, Blk.ren, renL, AV.ren, IB, renL_ints]; rfl) ⟨rfl, trivial⟩
theorem qpop_none (j : List Int) (r : Int) : CSpec Try.prog 34 [QQ j.length 0 r, IB j] [.ref 0 0 0] [some (QQ j.length 0 r), some (IB j)] (.tup [.int 0, .b false]) := by
  refine CSpec.body Try.func34 rfl rfl rfl rfl rfl fun Q hQ => ?_
  refine T.seq fun K1 hK1 => ?_
  refine T.region ?_ -- region 0
  refine ro rfl rfl (OpOk.step (ok_move (.inr rfl))) ?_
  refine ro rfl rfl (OpOk.step (ok_moveb (c := false) (.inr rfl) rfl)) ?_
  refine ro_nil ?_
  refine keepK hK1 [0] (by dsimp) (by dsimp) ?_
  refine T.seq fun K2 hK2 => ?_
  refine T.region ?_ -- region 1
  refine ro rfl rfl (OpOk.step (ok_move (.inr rfl))) ?_
  refine ro_nil ?_
  refine keepK hK2 [0, 4] (by dsimp) (by dsimp) ?_
  refine T.seq fun K3 hK3 => ?_
  refine T.seq fun K4 hK4 => ?_
  refine T.region ?_ -- region 2
  refine ro rfl rfl (OpOk.step (ok_move (.inl rfl))) ?_
  refine ro rfl rfl (ok_call rfl rfl rfl (((qlen_ok j [] r).pass [0, 1] (by decide) (by simp) (by simp [normH, hget, QQ, IB, Blk.ren, renL, AV.ren, renL_ints]; rfl) rfl).eq (x' := .int 0) (H'' := [some (QQ j.length 0 r), some (IB j)]) rfl (by simp [mergeH, setIds, renH, QQ, IB, Blk.ren, renL, AV.ren, renL_ints]; rfl))) ?_
  refine ro rfl rfl (OpOk.step (OpOk.bool (d := true) (ok_binOp rfl ti_int rfl) (rfl))) ?_
  refine ro_nil ?_
  refine keepK hK4 [0, 4, 8] (by dsimp) (by dsimp) ?_
  refine T.cond_true rfl ?_
  refine T.seq fun K5 hK5 => ?_
  refine T.region ?_ -- region 3
  refine ro rfl rfl (OpOk.step (ok_move (.inl rfl))) ?_
  refine ro rfl rfl (OpOk.step (ok_move (.inr rfl))) ?_
  refine ro rfl rfl (OpOk.step (ok_moveb (c := false) (.inr rfl) rfl)) ?_
  refine ro_nil ?_
  refine keepK hK5 [2, 3] (by dsimp) (by dsimp) ?_
  refine T.ret (hQ _ _ _ rfl ?_).1 -- ret 1
  exact TEnt.toH rfl ⟨rfl, trivial⟩
theorem qpop_ok (j l : List Int) (r x : Int) : CSpec Try.prog 34 [QQ j.length (x :: l).length r, IB (j ++ x :: l)] [.ref 0 0 0] [some (QQ (j ++ [x]).length l.length r), some (IB ((j ++ [x]) ++ l))] (.tup [.int x, .b true]) := by
  refine CSpec.body Try.func34 rfl rfl rfl rfl rfl fun Q hQ => ?_
  refine T.seq fun K1 hK1 => ?_
  refine T.region ?_ -- region 0
  refine ro rfl rfl (OpOk.step (ok_move (.inr rfl))) ?_
  refine ro rfl rfl (OpOk.step (ok_moveb (c := false) (.inr rfl) rfl)) ?_
  refine ro_nil ?_
  refine keepK hK1 [0] (by dsimp) (by dsimp) ?_
  refine T.seq fun K2 hK2 => ?_
  refine T.region ?_ -- region 1
  refine ro rfl rfl (OpOk.step (ok_move (.inr rfl))) ?_
  refine ro_nil ?_
  refine keepK hK2 [0, 4] (by dsimp) (by dsimp) ?_
  refine T.seq fun K3 hK3 => ?_
  refine T.seq fun K4 hK4 => ?_
  refine T.region ?_ -- region 2
  refine ro rfl rfl (OpOk.step (ok_move (.inl rfl))) ?_
  refine ro rfl rfl (ok_call rfl rfl rfl (((qlen_ok j (x :: l) r).pass [0, 1] (by decide) (by simp) (by simp [normH, hget, QQ, IB, Blk.ren, renL, AV.ren, renL_ints]; rfl) rfl).eq (x' := .int (x :: l).length) (H'' := [some (QQ j.length (x :: l).length r), some (IB (j ++ x :: l))]) rfl (by simp [mergeH, setIds, renH, QQ, IB, Blk.ren, renL, AV.ren, renL_ints]; rfl))) ?_
  refine ro rfl rfl (OpOk.step (OpOk.bool (d := false) (ok_binOp rfl ti_int rfl) (by simp; omega))) ?_
  refine ro_nil ?_
  refine keepK hK4 [0, 4, 8] (by dsimp) (by dsimp) ?_
  refine T.cond_false rfl ?_
  refine T.skip ?_
  refine keepK hK3 [0] (by dsimp) (by dsimp) ?_
  refine T.seq fun K5 hK5 => ?_
  refine T.region ?_ -- region 4
  refine ro rfl rfl (OpOk.step (ok_move (.inl rfl))) ?_
  refine ro rfl rfl (OpOk.step (ok_nilCheck rfl rfl)) ?_
  refine ro rfl rfl (OpOk.step (ok_fieldAddr rfl ti_queue_Queue_int_ rfl rfl ti_Lint (by decide) rfl)) ?_
  refine ro rfl rfl (OpOk.step (ok_load rfl ti_Lint rfl rfl)) ?_
  refine ro rfl rfl (OpOk.step ((ok_index_sl rfl ti_Lint rfl ti_int rfl rfl rfl rfl (by omega) (by simp <;> omega)).eq (x' := .ref 1 j.length 0) (by simp) rfl)) ?_
  refine ro rfl rfl (OpOk.step (by exact ok_load_ints (b := IB (j ++ x :: l)) (k := .i64) (y := x) rfl ti_int rfl rfl rfl rfl (by simp))) ?_
  refine ro rfl rfl (OpOk.step (ok_move (.inr rfl))) ?_
  refine ro_nil ?_
  refine keepK hK5 [0, 5] (by dsimp) (by dsimp) ?_
  refine T.seq fun K6 hK6 => ?_
  refine T.region ?_ -- region 5
  refine ro rfl rfl (OpOk.step (ok_move (.inl rfl))) ?_
  refine ro rfl rfl (OpOk.step (ok_move (.inl rfl))) ?_
  refine ro rfl rfl (OpOk.step (ok_nilCheck rfl rfl)) ?_
  refine ro rfl rfl (OpOk.step (ok_fieldAddr rfl ti_queue_Queue_int_ rfl rfl ti_Lint (by decide) rfl)) ?_
  refine ro rfl rfl (OpOk.step (ok_load rfl ti_Lint rfl rfl)) ?_
  refine ro rfl rfl (OpOk.step (by exact ok_slice (r := .sl 1 (j ++ [x]).length l.length) rfl ti_Lint (.inl ⟨_, _, rfl, ti_int, rfl⟩) rfl rfl rfl (by simp [sliceA, hget, IB]; omega))) ?_
  refine ro rfl rfl (OpOk.step (ok_nilCheck rfl rfl)) ?_
  refine ro rfl rfl (OpOk.step (ok_fieldAddr rfl ti_queue_Queue_int_ rfl rfl ti_Lint (by decide) rfl)) ?_
  refine ro rfl rfl (OpOk.step ((ok_store rfl ti_Lint (by decide) rfl rfl rfl rfl rfl (Nat.le_of_ble_eq_true rfl) (.inr rfl)).eq (x' := .any) (H'' := [some (QQ (j ++ [x]).length l.length r), some (IB (j ++ x :: l))]) rfl rfl)) ?_
  refine ro_nil ?_
  refine keepK hK6 [5] (by dsimp) (by dsimp) ?_
  refine T.seq fun K7 hK7 => ?_
  refine T.region ?_ -- region 6
  refine ro rfl rfl (OpOk.step (ok_move (.inl rfl))) ?_
  refine ro rfl rfl (OpOk.step (ok_move (.inr rfl))) ?_
  refine ro rfl rfl (OpOk.step (ok_moveb (c := true) (.inr rfl) rfl)) ?_
  refine ro_nil ?_
  refine keepK hK7 [2, 3] (by dsimp) (by dsimp) ?_
  refine T.ret (hQ _ _ _ rfl ?_).1 -- ret 1
  exact TEnt.toH (by simp) ⟨rfl, trivial⟩
theorem qpop_all (j l : List Int) (r : Int) : CSpec Try.prog 34 [QQ j.length l.length r, IB (j ++ l)] [.ref 0 0 0] [some (QQ (j ++ l.take 1).length (l.drop 1).length r), some (IB ((j ++ l.take 1) ++ l.drop 1))] (.tup [.int (l.headD 0), .b (decide (0 < l.length))]) := by
  cases l with
  | nil =>
    have := qpop_none j r
    simpa using this
  | cons x l =>
    have := qpop_ok j l r x
    simpa using this
theorem slen_nil : CSpec Try.prog 39 [] [.v (.pointer none)] [] (.int 0) := by
  refine CSpec.body Try.func39 rfl rfl rfl rfl rfl fun Q hQ => ?_
  refine T.seq fun K1 hK1 => ?_
  refine T.region ?_ -- region 0
  refine ro rfl rfl (OpOk.step (ok_move (.inr rfl))) ?_
  refine ro_nil ?_
  refine keepK hK1 [0] (by dsimp) (by dsimp) ?_
  refine T.seq fun K2 hK2 => ?_
  refine T.seq fun K3 hK3 => ?_
  refine T.region ?_ -- region 1
  refine ro rfl rfl (OpOk.step (ok_move (.inl rfl))) ?_
  refine ro rfl rfl (OpOk.step (OpOk.bool (d := true) (ok_binOp rfl ti_Pqueue_Queue_string_ rfl) (rfl))) ?_
  refine ro_nil ?_
  refine keepK hK3 [0, 4] (by dsimp) (by dsimp) ?_
  refine T.cond_true rfl ?_
  refine T.seq fun K4 hK4 => ?_
  refine T.region ?_ -- region 2
  refine ro rfl rfl (OpOk.step (ok_move (.inr rfl))) ?_
  refine ro_nil ?_
  refine keepK hK4 [2] (by dsimp) (by dsimp) ?_
  refine T.ret (hQ _ _ _ rfl ?_).1
  exact TEnt.fin [] (by decide) (by simp) rfl ⟨rfl, trivial⟩ -- ?? ret 1
theorem spop_nil : CSpec Try.prog 37 [] [.v (.pointer none)] [] (.tup [.v (.string ⟨#[]⟩), .b false]) := by
  refine CSpec.body Try.func37 rfl rfl rfl rfl rfl fun Q hQ => ?_
  refine T.seq fun K1 hK1 => ?_
  refine T.region ?_ -- region 0
  refine ro rfl rfl (OpOk.step (ok_move (.inr rfl))) ?_
  refine ro rfl rfl (OpOk.step (ok_moveb (c := false) (.inr rfl) rfl)) ?_
  refine ro_nil ?_
  refine keepK hK1 [0] (by dsimp) (by dsimp) ?_
  refine T.seq fun K2 hK2 => ?_
  refine T.region ?_ -- region 1
  refine ro rfl rfl (OpOk.step (ok_move (.inr rfl))) ?_
  refine ro_nil ?_
  refine keepK hK2 [0, 4] (by dsimp) (by dsimp) ?_
  refine T.seq fun K3 hK3 => ?_
  refine T.seq fun K4 hK4 => ?_
  refine T.region ?_ -- region 2
  refine ro rfl rfl (OpOk.step (ok_move (.inl rfl))) ?_
  refine ro rfl rfl (ok_call rfl rfl rfl (slen_nil.plain rfl rfl)) ?_
  refine ro rfl rfl (OpOk.step (OpOk.bool (d := true) (ok_binOp rfl ti_int rfl) (rfl))) ?_
  refine ro_nil ?_
  refine keepK hK4 [0, 4, 8] (by dsimp) (by dsimp) ?_
  refine T.cond_true rfl ?_
  refine T.seq fun K5 hK5 => ?_
  refine T.region ?_ -- region 3
  refine ro rfl rfl (OpOk.step (ok_move (.inl rfl))) ?_
  refine ro rfl rfl (OpOk.step (ok_move (.inr rfl))) ?_
  refine ro rfl rfl (OpOk.step (ok_moveb (c := false) (.inr rfl) rfl)) ?_
  refine ro_nil ?_
  refine keepK hK5 [2, 3] (by dsimp) (by dsimp) ?_
  refine T.ret (hQ _ _ _ rfl ?_).1
  exact TEnt.fin [] (by decide) (by simp) rfl ⟨rfl, trivial⟩ -- ?? ret 1
theorem spush_nil (s : ByteArray) : CSpec Try.prog 38 [] [.v (.pointer none), .v (.string s)] [] (.b false) := by
  refine CSpec.body Try.func38 rfl rfl rfl rfl rfl fun Q hQ => ?_
  refine T.seq fun K1 hK1 => ?_
  refine T.region ?_ -- region 0
  refine ro rfl rfl (OpOk.step (ok_moveb (c := false) (.inr rfl) rfl)) ?_
  refine ro_nil ?_
  refine keepK hK1 [0, 1] (by dsimp) (by dsimp) ?_
  refine T.seq fun K2 hK2 => ?_
  refine T.seq fun K3 hK3 => ?_
  refine T.drawH mixed [] ?_ -- region 1
  refine any_take 0 rfl (by first | rfl | decide +kernel) rfl (HeldL.refl _) (fun H' hH => OpOk.step (ok_move (.inl rfl))) ?_
  refine any_take 1 rfl (by first | rfl | decide +kernel) rfl (HeldL.refl _) (fun H' hH => OpOk.step (ok_binOp rfl ti_Pqueue_Queue_string_ rfl)) ?_
  refine any_take 2 rfl (by first | rfl | decide +kernel) rfl (HeldL.refl _) (fun H' hH => OpOk.step (OpOk.bool (d := true) (ok_moveb (.inl rfl) rfl) (rfl))) ?_
  refine any_skip 3 rfl (by first | rfl | decide +kernel) rfl (HeldL.refl _) ?_
  refine any_skip 4 rfl (by first | rfl | decide +kernel) rfl (HeldL.refl _) ?_
  refine any_skip 5 rfl (by first | rfl | decide +kernel) rfl (HeldL.refl _) ?_
  refine any_skip 6 rfl (by first | rfl | decide +kernel) rfl (HeldL.refl _) ?_
  refine any_skip 7 rfl (by first | rfl | decide +kernel) rfl (HeldL.refl _) ?_
  refine any_skip 8 rfl (by first | rfl | decide +kernel) rfl (HeldL.refl _) ?_
  refine any_skip 9 rfl (by first | rfl | decide +kernel) rfl (HeldL.refl _) ?_
  refine any_skip 10 rfl (by first | rfl | decide +kernel) rfl (HeldL.refl _) ?_
  refine any_skip 11 rfl (by first | rfl | decide +kernel) rfl (HeldL.refl _) ?_
  refine any_skip 12 rfl (by first | rfl | decide +kernel) rfl (HeldL.refl _) ?_
  refine any_take 13 rfl (by first | rfl | decide +kernel) rfl (HeldL.refl _) (fun H' hH => OpOk.step (ok_pickb (t := true) (d := true) rfl rfl rfl)) ?_
  refine any_done rfl ?_
  refine keepK hK3 [0, 1, 18] (by dsimp) (by dsimp) ?_
  refine T.cond_true rfl ?_
  refine T.seq fun K4 hK4 => ?_
  refine T.region ?_ -- region 2
  refine ro rfl rfl (OpOk.step (ok_moveb (c := false) (.inr rfl) rfl)) ?_
  refine ro_nil ?_
  refine keepK hK4 [4] (by dsimp) (by dsimp) ?_
  refine T.ret (hQ _ _ _ rfl ?_).1
  exact TEnt.fin [] (by decide) (by simp) rfl ⟨rfl, trivial⟩ -- ?? ret 1
theorem sall_nil : CSpec Try.prog 40 [] [.v (.pointer none)] [] (.v (.slice none 0 0)) := by
  refine CSpec.body Try.func40 rfl rfl rfl rfl rfl fun Q hQ => ?_
  refine T.seq fun K1 hK1 => ?_
  refine T.region ?_ -- region 0
  refine ro rfl rfl (OpOk.step (ok_move (.inr rfl))) ?_
  refine ro_nil ?_
  refine keepK hK1 [0] (by dsimp) (by dsimp) ?_
  refine T.seq fun K2 hK2 => ?_
  refine T.seq fun K3 hK3 => ?_
  refine T.region ?_ -- region 1
  refine ro rfl rfl (OpOk.step (ok_move (.inl rfl))) ?_
  refine ro rfl rfl (OpOk.step (OpOk.bool (d := true) (ok_binOp rfl ti_Pqueue_Queue_string_ rfl) (rfl))) ?_
  refine ro_nil ?_
  refine keepK hK3 [0, 4] (by dsimp) (by dsimp) ?_
  refine T.cond_true rfl ?_
  refine T.seq fun K4 hK4 => ?_
  refine T.region ?_ -- region 2
  refine ro rfl rfl (OpOk.step (ok_move (.inr rfl))) ?_
  refine ro_nil ?_
  refine keepK hK4 [2] (by dsimp) (by dsimp) ?_
  refine T.ret (hQ _ _ _ rfl ?_).1
  exact TEnt.fin [] (by decide) (by simp) rfl ⟨rfl, trivial⟩ -- ?? ret 1
def Acts (l : List (Bool × Int)) : List AV := l.map fun a => .agg [.b a.1, .int a.2]
theorem Acts_len (l : List (Bool × Int)) : (Acts l).length = l.length := by simp [Acts]
theorem Acts_ren (ρ : Nat → Option Nat) (l : List (Bool × Int)) : renL ρ (Acts l) = Acts l := by
  rw [renL_map]; simp [Acts, AV.ren, renL]
theorem mapLen (l : List (Bool × Int)) : (Acts l).length = l.length := Acts_len l
attribute [local simp] Acts_len
theorem QQ_ren (ρ : Nat → Option Nat) (o n : Nat) (r : Int) (h : ρ 1 = some 1) : Blk.ren ρ (QQ o n r) = QQ o n r := by simp [QQ, Blk.ren, renL, AV.ren, h]
theorem IB_ren64 (ρ : Nat → Option Nat) (l : List Int) : Blk.ren ρ (IB l) = IB l := by simp [IB, Blk.ren, renL_ints]
abbrev QS := List Int × List Int × List Int
def qst (room : Int) (acts : List (Bool × Int)) (i : Nat) (s : QS) : TM × Heap := ([(0, .int room), (1, .fz 2 (Acts acts)), (5, .ref 0 0 0), (6, .sl 2 s.2.1.length s.2.2.length), (7, .int i)], [some (QQ s.1.length s.2.2.length (rm room)), some (IB (s.1 ++ s.2.2)), some (IB (s.2.1 ++ s.2.2))])
set_option maxHeartbeats 2000000 in
theorem queuePlays_ok (room : Int) (acts : List (Bool × Int)) (hl : acts.length ≤ 140737488355328) : CSpec Try.prog 7 [] [.int room, .fz 2 (Acts acts)] [] (.b true) := by
  refine CSpec.body Try.func7 rfl rfl rfl rfl rfl fun Q hQ => ?_
  refine T.seq fun K1 hK1 => ?_
  refine T.region ?_ -- region 0
  refine ro rfl rfl (OpOk.step (ok_moveb (c := false) (.inr rfl) rfl)) ?_
  refine ro_nil ?_
  refine keepK hK1 [0, 1] (by dsimp) (by dsimp) ?_
  refine T.seq fun K2 hK2 => ?_
  refine T.seq fun K3 hK3 => ?_
  refine T.region ?_ -- region 1
  refine ro rfl rfl (OpOk.step (ok_move (.inl rfl))) ?_
  refine ro rfl rfl (OpOk.step (ok_len' rfl rfl ti_Lrevetmentlaw34_Act rfl (by first | exact ints_length _ _ | exact rowsA_length _ _ | exact Cms_len _ | exact mapLen _ | rfl))) ?_
  refine ro rfl rfl (OpOk.step (ok_binOp rfl ti_int rfl)) ?_
  refine ro_nil ?_
  refine keepK hK3 [0, 1, 18] (by dsimp) (by dsimp) ?_
  refine T.cond rfl (fun hc => ?_) (fun hc => ?_) -- cond 1
  · (try simp only [decide_eq_true_eq, decide_eq_false_iff_not, beq_iff_eq, beq_eq_false_iff_ne, bne_iff_ne, bne_eq_false_iff_eq, ne_eq, Bool.not_eq_true', Bool.not_eq_false'] at hc)
    refine T.seq fun K4 hK4 => ?_
    refine T.region ?_ -- region 2
    refine ro rfl rfl (ok_call rfl rfl rfl (live34_ok.plain rfl rfl)) ?_
    refine ro rfl rfl (OpOk.step (ok_move (.inr rfl))) ?_
    refine ro_nil ?_
    refine keepK hK4 [4] (by dsimp) (by dsimp) ?_
    refine T.ret (hQ _ _ _ rfl ?_).1 -- ret 1
    exact TEnt.fin [] (by decide) (by simp) rfl ⟨rfl, trivial⟩
  · (try simp only [decide_eq_true_eq, decide_eq_false_iff_not, beq_iff_eq, beq_eq_false_iff_ne, bne_iff_ne, bne_eq_false_iff_eq, ne_eq, Bool.not_eq_true', Bool.not_eq_false'] at hc)
    have hl60 : acts.length ≤ 60 := by omega
    refine T.skip ?_
    refine keepK hK2 [0, 1] (by dsimp) (by dsimp) ?_
    refine T.seq fun K5 hK5 => ?_
    refine T.region ?_ -- region 3
    refine ro rfl rfl (OpOk.step (ok_move (.inl rfl))) ?_
    refine ro rfl rfl (ok_call rfl rfl rfl ((qnew_ok room).fresh (x' := .ref 0 0 0) (H' := [some (QQ 0 0 (rm room)), some (IB [])]) rfl rfl (by simp [renH, QQ, IB, Blk.ren, renL, AV.ren, renL_ints]))) ?_
    refine ro rfl rfl (OpOk.step (ok_move (.inr rfl))) ?_
    refine ro_nil ?_
    refine keepK hK5 [0, 1, 5] (by dsimp) (by dsimp) ?_
    refine T.seq fun K6 hK6 => ?_
    refine T.region ?_ -- region 4
    refine ro rfl rfl (OpOk.step (ok_move (.inr rfl))) ?_
    refine ro_nil ?_
    refine keepK hK6 [0, 1, 5, 6] (by dsimp) (by dsimp) ?_
    refine T.seq fun K7 hK7 => ?_
    refine T.seq fun K8 hK8 => ?_
    refine T.region ?_ -- region 5
    refine ro rfl rfl (OpOk.step (ok_move (.inr rfl))) ?_
    refine ro_nil ?_
    refine keepK hK8 [0, 1, 5, 6, 7] (by dsimp) (by dsimp) ?_
    refine T.block ?_
    refine T.loopI (ι := Nat × QS) (fun s => s.1 ≤ acts.length ∧ s.2.2.2.length ≤ s.1) (fun s => acts.length - s.1) (fun s => qst room acts s.1 s.2) (0, [], [], []) ⟨Nat.zero_le _, Nat.zero_le _⟩ ((TEnt.empty 6 1 (by decide) (.inr rfl)).trans (TEnt.toH rfl ⟨rfl, rfl, rfl, rfl, rfl, trivial⟩)) (fun i hi => ?_) -- loop 1
    obtain ⟨i, jq, jw, l⟩ := i
    obtain ⟨hi, hli⟩ := hi
    dsimp only [qst] at hi hli ⊢
    refine T.seq fun K9 hK9 => ?_
    refine T.seq fun K10 hK10 => ?_
    refine T.region ?_ -- region 6
    refine ro rfl rfl (OpOk.step (ok_move (.inl rfl))) ?_
    refine ro rfl rfl (OpOk.step (ok_move (.inl rfl))) ?_
    refine ro rfl rfl (OpOk.step (ok_len' rfl rfl ti_Lrevetmentlaw34_Act rfl (by first | exact ints_length _ _ | exact rowsA_length _ _ | exact Cms_len _ | exact mapLen _ | rfl))) ?_
    refine ro rfl rfl (OpOk.step (ok_binOp rfl ti_int rfl)) ?_
    refine ro_nil ?_
    refine keepK hK10 [0, 1, 5, 6, 7, 25] (by dsimp) (by dsimp) ?_
    refine T.cond rfl (fun hc => ?_) (fun hc => ?_) -- cond 2
    · (try simp only [decide_eq_true_eq, decide_eq_false_iff_not, beq_iff_eq, beq_eq_false_iff_ne, bne_iff_ne, bne_eq_false_iff_eq, ne_eq, Bool.not_eq_true', Bool.not_eq_false'] at hc)
      have hil : i < acts.length := by omega
      obtain ⟨a, ha⟩ : ∃ a, acts[i]? = some a := ⟨_, List.getElem?_eq_getElem hil⟩
      obtain ⟨push, x⟩ := a
      refine T.skip ?_
      refine keepK hK9 [0, 1, 5, 6, 7] (by dsimp) (by dsimp) ?_
      refine T.seq fun K11 hK11 => ?_
      refine T.block ?_
      refine T.seq fun K12 hK12 => ?_
      refine T.seq fun K13 hK13 => ?_
      refine T.region ?_ -- region 8
      refine ro rfl rfl (OpOk.step (ok_move (.inl rfl))) ?_
      refine ro rfl rfl (OpOk.step (ok_move (.inl rfl))) ?_
      refine ro rfl rfl (OpOk.step (by exact ok_index_map (F := fun a : Bool × Int => [.b a.1, .int a.2]) rfl ti_Lrevetmentlaw34_Act rfl ti_revetmentlaw34_Act rfl rfl rfl ha (by simp))) ?_
      refine ro rfl rfl (OpOk.step (ok_fieldAddr rfl ti_revetmentlaw34_Act rfl rfl ti_bool (by decide) rfl)) ?_
      refine ro rfl rfl (OpOk.step (ok_load rfl ti_bool rfl rfl)) ?_
      refine ro_nil ?_
      refine keepK hK13 [0, 1, 5, 6, 7, 32] (by dsimp) (by dsimp) ?_
      refine T.joinE hK12 (ι := QS) (fun s => s.2.2.length ≤ i + 1) (fun s => qst room acts i s) (fun hJ14 => ?_) (fun j hj => ?_) -- join 1
      · -- the two ways
        refine T.cond rfl (fun hc => ?_) (fun hc => ?_) -- cond 3
        · (try simp only [decide_eq_true_eq, decide_eq_false_iff_not, beq_iff_eq, beq_eq_false_iff_ne, bne_iff_ne, bne_eq_false_iff_eq, ne_eq, Bool.not_eq_true', Bool.not_eq_false'] at hc)
          refine T.seq fun K15 hK15 => ?_
          refine T.region ?_ -- region 9
          refine ro rfl rfl (OpOk.step (ok_move (.inl rfl))) ?_
          refine ro rfl rfl (OpOk.step (ok_len' rfl rfl ti_Lint rfl (by first | exact ints_length _ _ | exact rowsA_length _ _ | exact Cms_len _ | exact mapLen _ | rfl))) ?_
          refine ro rfl rfl (OpOk.step (ok_move (.inl rfl))) ?_
          refine ro_case rfl rfl (OpOk.step (ok_binOp rfl ti_int rfl)) (fun hb => ?_) (fun hb => ?_)
          · (try simp only [decide_eq_true_eq, decide_eq_false_iff_not, beq_iff_eq, beq_eq_false_iff_ne, bne_iff_ne, bne_eq_false_iff_eq, ne_eq, Bool.not_eq_true', Bool.not_eq_false'] at hb)
            have hlr : (l.length : Int) < rm room := by unfold rm; omega
            refine ro rfl rfl (OpOk.step (ok_moveb (c := true) (.inr rfl) rfl)) ?_
            refine ro_nil ?_
            refine keepK hK15 [0, 1, 5, 6, 7, 8] (by dsimp) (by dsimp) ?_
            refine T.seq fun K16 hK16 => ?_
            refine T.seq fun K17 hK17 => ?_
            refine T.region ?_ -- region 10
            refine ro rfl rfl (OpOk.step (ok_move (.inl rfl))) ?_
            refine ro rfl rfl (OpOk.step (ok_move (.inl rfl))) ?_
            refine ro rfl rfl (OpOk.step (ok_move (.inl rfl))) ?_
            refine ro rfl rfl (OpOk.step (by exact ok_index_map (F := fun a : Bool × Int => [.b a.1, .int a.2]) rfl ti_Lrevetmentlaw34_Act rfl ti_revetmentlaw34_Act rfl rfl rfl ha (by simp))) ?_
            refine ro rfl rfl (OpOk.step (ok_fieldAddr rfl ti_revetmentlaw34_Act rfl rfl ti_int (by decide) rfl)) ?_
            refine ro rfl rfl (OpOk.step (ok_load rfl ti_int rfl rfl)) ?_
            refine ro rfl rfl (ok_call rfl rfl rfl (by first | exact ((qpush_ok jq l (rm room) x hlr (by omega)).pass [0, 1] (by decide) (by simp) (by simp [normH, hget, QQ, IB, Blk.ren, renL, AV.ren, renL_ints]; rfl) rfl).eq (x' := .b true) (H'' := [some ⟨2, true, [.agg [.sl 3 0 (l ++ [x]).length, .int (rm room)]]⟩, none, some (IB (jw ++ l)), some (IB (l ++ [x]))]) rfl (by simp [mergeH, setIds, renH, QQ, IB, Blk.ren, renL, AV.ren, renL_ints, Go.AM.back]) | exact ((qpush_full jq l (rm room) x hlr).pass [0, 1] (by decide) (by simp) (by simp [normH, hget, QQ, IB, Blk.ren, renL, AV.ren, renL_ints]; rfl) rfl).eq (x' := .b false) (H'' := [some (QQ jq.length l.length (rm room)), some (IB (jq ++ l)), some (IB (jw ++ l))]) rfl (by simp [mergeH, setIds, renH, QQ, IB, Blk.ren, renL, AV.ren, renL_ints, Go.AM.back]))) ?_
            refine ro rfl rfl (OpOk.step (ok_moveb (c := true) (.inl rfl) rfl)) ?_
            refine ro rfl rfl (OpOk.step (OpOk.bool (d := false) (ok_binOp rfl ti_bool rfl) (rfl))) ?_
            refine ro_nil ?_
            refine keepK hK17 [0, 1, 5, 6, 7, 8, 45] (by dsimp) (by dsimp) ?_
            refine T.cond_false rfl ?_
            refine T.skip ?_
            refine keepK hK16 [0, 1, 5, 6, 7, 8] (by dsimp) (by dsimp) ?_
            refine T.seq fun K18 hK18 => ?_
            refine T.region ?_ -- region 12
            refine ro rfl rfl (OpOk.step (ok_moveb (c := true) (.inl rfl) rfl)) ?_
            refine ro_nil ?_
            refine keepK hK18 [0, 1, 5, 6, 7, 46] (by dsimp) (by dsimp) ?_
            refine T.cond_true rfl ?_
            refine T.region ?_ -- region 13
            refine ro rfl rfl (OpOk.step (ok_move (.inl rfl))) ?_
            refine ro rfl rfl (OpOk.step (ok_move (.inl rfl))) ?_
            refine ro rfl rfl (OpOk.step (ok_move (.inl rfl))) ?_
            refine ro rfl rfl (OpOk.step (by exact ok_index_map (F := fun a : Bool × Int => [.b a.1, .int a.2]) rfl ti_Lrevetmentlaw34_Act rfl ti_revetmentlaw34_Act rfl rfl rfl ha (by simp))) ?_
            refine ro rfl rfl (OpOk.step (ok_fieldAddr rfl ti_revetmentlaw34_Act rfl rfl ti_int (by decide) rfl)) ?_
            refine ro rfl rfl (OpOk.step (ok_load rfl ti_int rfl rfl)) ?_
            refine ro rfl rfl (OpOk.step (ok_buildSlice (n := 1) (ps := #[(0, .tmp 52)]) rfl ti_Lint rfl ti_int (by decide) rfl rfl (by decide) rfl rfl rfl)) ?_
            refine ro rfl rfl (OpOk.step ((ok_append_sl rfl ti_Lint rfl ti_int (by decide) (by decide) rfl ti_Lint (by simp) (rowA_sl rfl rfl (by simp)) (.inl rfl) rfl rfl rfl rfl (by simp [IB]) (by show (_ + 1) * 8 ≤ _; omega)).eq (x' := .sl 5 0 (l ++ [x]).length) (H'' := [some ⟨2, true, [.agg [.sl 3 0 (l ++ [x]).length, .int (rm room)]]⟩, none, none, some (IB (l ++ [x])), some (IB [x]), some (IB (l ++ [x]))]) (by simp) (by simp [IB, ints]))) ?_
            refine ro rfl rfl (OpOk.step (ok_move (.inr rfl))) ?_
            refine ro_nil ?_
            exact hJ14 _ _ ([], [], l ++ [x]) (by simp; omega) (TEnt.fin [0, 3, 5] (by decide) (by simp) (by simp [qst, normH, hget, QQ, IB, Blk.ren, renL, AV.ren, renL_ints, show pos [0, 3, 5] 3 = some 1 from rfl]) ⟨rfl, by simp [AV.ren, Acts_ren], rfl, rfl, rfl, trivial⟩)
          · (try simp only [decide_eq_true_eq, decide_eq_false_iff_not, beq_iff_eq, beq_eq_false_iff_ne, bne_iff_ne, bne_eq_false_iff_eq, ne_eq, Bool.not_eq_true', Bool.not_eq_false'] at hb)
            have hlr : rm room ≤ (l.length : Int) := by unfold rm; omega
            refine ro rfl rfl (OpOk.step (ok_moveb (c := false) (.inr rfl) rfl)) ?_
            refine ro_nil ?_
            refine keepK hK15 [0, 1, 5, 6, 7, 8] (by dsimp) (by dsimp) ?_
            refine T.seq fun K19 hK19 => ?_
            refine T.seq fun K20 hK20 => ?_
            refine T.region ?_ -- region 10
            refine ro rfl rfl (OpOk.step (ok_move (.inl rfl))) ?_
            refine ro rfl rfl (OpOk.step (ok_move (.inl rfl))) ?_
            refine ro rfl rfl (OpOk.step (ok_move (.inl rfl))) ?_
            refine ro rfl rfl (OpOk.step (by exact ok_index_map (F := fun a : Bool × Int => [.b a.1, .int a.2]) rfl ti_Lrevetmentlaw34_Act rfl ti_revetmentlaw34_Act rfl rfl rfl ha (by simp))) ?_
            refine ro rfl rfl (OpOk.step (ok_fieldAddr rfl ti_revetmentlaw34_Act rfl rfl ti_int (by decide) rfl)) ?_
            refine ro rfl rfl (OpOk.step (ok_load rfl ti_int rfl rfl)) ?_
            refine ro rfl rfl (ok_call rfl rfl rfl (by first | exact ((qpush_ok jq l (rm room) x hlr (by omega)).pass [0, 1] (by decide) (by simp) (by simp [normH, hget, QQ, IB, Blk.ren, renL, AV.ren, renL_ints]; rfl) rfl).eq (x' := .b true) (H'' := [some ⟨2, true, [.agg [.sl 3 0 (l ++ [x]).length, .int (rm room)]]⟩, none, some (IB (jw ++ l)), some (IB (l ++ [x]))]) rfl (by simp [mergeH, setIds, renH, QQ, IB, Blk.ren, renL, AV.ren, renL_ints, Go.AM.back]) | exact ((qpush_full jq l (rm room) x hlr).pass [0, 1] (by decide) (by simp) (by simp [normH, hget, QQ, IB, Blk.ren, renL, AV.ren, renL_ints]; rfl) rfl).eq (x' := .b false) (H'' := [some (QQ jq.length l.length (rm room)), some (IB (jq ++ l)), some (IB (jw ++ l))]) rfl (by simp [mergeH, setIds, renH, QQ, IB, Blk.ren, renL, AV.ren, renL_ints, Go.AM.back]))) ?_
            refine ro rfl rfl (OpOk.step (ok_moveb (c := false) (.inl rfl) rfl)) ?_
            refine ro rfl rfl (OpOk.step (OpOk.bool (d := false) (ok_binOp rfl ti_bool rfl) (rfl))) ?_
            refine ro_nil ?_
            refine keepK hK20 [0, 1, 5, 6, 7, 8, 45] (by dsimp) (by dsimp) ?_
            refine T.cond_false rfl ?_
            refine T.skip ?_
            refine keepK hK19 [0, 1, 5, 6, 7, 8] (by dsimp) (by dsimp) ?_
            refine T.seq fun K21 hK21 => ?_
            refine T.region ?_ -- region 12
            refine ro rfl rfl (OpOk.step (ok_moveb (c := false) (.inl rfl) rfl)) ?_
            refine ro_nil ?_
            refine keepK hK21 [0, 1, 5, 6, 7, 46] (by dsimp) (by dsimp) ?_
            refine T.cond_false rfl ?_
            refine T.skip ?_
            exact hJ14 _ _ (jq, jw, l) (by simp; omega) (TEnt.toH rfl ⟨rfl, rfl, rfl, rfl, rfl, trivial⟩)
        · (try simp only [decide_eq_true_eq, decide_eq_false_iff_not, beq_iff_eq, beq_eq_false_iff_ne, bne_iff_ne, bne_eq_false_iff_eq, ne_eq, Bool.not_eq_true', Bool.not_eq_false'] at hc)
          refine T.seq fun K22 hK22 => ?_
          refine T.region ?_ -- region 14
          refine ro rfl rfl (OpOk.step (ok_move (.inl rfl))) ?_
          refine ro rfl rfl (ok_call rfl rfl rfl (((qpop_all jq l (rm room)).pass [0, 1] (by decide) (by simp) (by simp [normH, hget, QQ, IB, Blk.ren, renL, AV.ren, renL_ints]; rfl) rfl).eq (x' := .tup [.int (l.headD 0), .b (decide (0 < l.length))]) (H'' := [some (QQ (jq ++ l.take 1).length (l.drop 1).length (rm room)), some (IB ((jq ++ l.take 1) ++ l.drop 1)), some (IB (jw ++ l))]) rfl (by simp [mergeH, setIds, renH, QQ, IB, Blk.ren, renL, AV.ren, renL_ints, Go.AM.back]))) ?_
          refine ro rfl rfl (OpOk.step (ok_move (.inl rfl))) ?_
          refine ro rfl rfl (OpOk.step (ok_extract rfl rfl rfl)) ?_
          refine ro rfl rfl (OpOk.step (ok_extract rfl rfl rfl)) ?_
          refine ro rfl rfl (OpOk.step (ok_move (.inr rfl))) ?_
          refine ro rfl rfl (OpOk.step (ok_move (.inr rfl))) ?_
          refine ro_nil ?_
          refine keepK hK22 [0, 1, 5, 6, 7, 9, 10] (by dsimp) (by dsimp) ?_
          refine T.seq fun K23 hK23 => ?_
          refine T.seq fun K24 hK24 => ?_
          refine T.region ?_ -- region 15
          refine ro rfl rfl (OpOk.step (ok_move (.inl rfl))) ?_
          refine ro rfl rfl (OpOk.step (ok_move (.inl rfl))) ?_
          refine ro rfl rfl (OpOk.step (ok_len' rfl rfl ti_Lint rfl (by first | exact ints_length _ _ | exact rowsA_length _ _ | exact Cms_len _ | exact mapLen _ | rfl))) ?_
          refine ro rfl rfl (OpOk.step (ok_binOp rfl ti_int rfl)) ?_
          refine ro rfl rfl (OpOk.step (OpOk.bool (d := false) (ok_binOp rfl ti_bool rfl) (by simp))) ?_
          refine ro rfl rfl (OpOk.step (ok_moveb (c := false) (.inl rfl) rfl)) ?_
          refine ro rfl rfl (OpOk.step (ok_move (.inl rfl))) ?_
          refine ro_case rfl rfl (OpOk.step (ok_moveb (.inl rfl) rfl)) (fun hb => ?_) (fun hb => ?_)
          · (try simp only [decide_eq_true_eq, decide_eq_false_iff_not, beq_iff_eq, beq_eq_false_iff_ne, bne_iff_ne, bne_eq_false_iff_eq, ne_eq, Bool.not_eq_true', Bool.not_eq_false'] at hb)
            obtain ⟨y, l', rfl⟩ : ∃ y l', l = y :: l' := by
              cases l with
              | nil => simp at hb
              | cons y l' => exact ⟨y, l', rfl⟩
            refine ro rfl rfl (OpOk.step (ok_move (.inl rfl))) ?_
            refine ro rfl rfl (OpOk.step (ok_move (.inl rfl))) ?_
            refine ro rfl rfl (OpOk.step ((ok_index_sl rfl ti_Lint rfl ti_int rfl rfl rfl rfl (by omega) (by simp <;> omega)).eq (x' := .ref 2 jw.length 0) (by simp) rfl)) ?_
            refine ro rfl rfl (OpOk.step (by exact ok_load_ints (b := IB (jw ++ y :: l')) (k := .i64) (y := y) rfl ti_int rfl rfl rfl rfl (by simp))) ?_
            refine ro rfl rfl (OpOk.step (OpOk.bool (d := false) (ok_binOp rfl ti_int rfl) (by simp))) ?_
            refine ro rfl rfl (OpOk.step (ok_pickb (t := true) (d := false) rfl rfl rfl)) ?_
            refine ro rfl rfl (OpOk.step (ok_pickb (t := false) (d := false) rfl rfl rfl)) ?_
            refine ro rfl rfl (OpOk.step (ok_moveb (c := false) (.inl rfl) rfl)) ?_
            refine ro rfl rfl (OpOk.step (ok_move (.inl rfl))) ?_
            refine ro rfl rfl (OpOk.step (ok_unOp rfl rfl)) ?_
            refine ro rfl rfl (OpOk.step (OpOk.bool (d := false) (ok_moveb (.inl rfl) rfl) (by simp))) ?_
            refine ro_skip rfl rfl ?_
            refine ro_skip rfl rfl ?_
            refine ro rfl rfl (OpOk.step (ok_pickb (t := false) (d := false) rfl rfl rfl)) ?_
            refine ro rfl rfl (OpOk.step (ok_pickb (t := false) (d := false) rfl rfl rfl)) ?_
            refine ro_nil ?_
            refine keepK hK24 [0, 1, 5, 6, 7, 10, 82] (by dsimp) (by dsimp) ?_
            refine T.cond_false rfl ?_
            refine T.skip ?_
            refine keepK hK23 [0, 1, 5, 6, 7, 10] (by dsimp) (by dsimp) ?_
            refine T.seq fun K25 hK25 => ?_
            refine T.region ?_ -- region 17
            refine ro rfl rfl (OpOk.step (ok_move (.inl rfl))) ?_
            refine ro_nil ?_
            refine keepK hK25 [0, 1, 5, 6, 7, 83] (by dsimp) (by dsimp) ?_
            refine T.cond rfl (fun hc => ?_) (fun hc => ?_) -- cond 4
            · (try simp only [decide_eq_true_eq, decide_eq_false_iff_not, beq_iff_eq, beq_eq_false_iff_ne, bne_iff_ne, bne_eq_false_iff_eq, ne_eq, Bool.not_eq_true', Bool.not_eq_false'] at hc)
              refine T.region ?_ -- region 18
              refine ro rfl rfl (OpOk.step (ok_move (.inl rfl))) ?_
              refine ro rfl rfl (OpOk.step (by exact ok_slice (r := .sl 2 (jw ++ [y]).length l'.length) rfl ti_Lint (.inl ⟨_, _, rfl, ti_int, rfl⟩) rfl rfl rfl (by simp [sliceA, hget, IB]; omega))) ?_
              refine ro rfl rfl (OpOk.step (ok_move (.inr rfl))) ?_
              refine ro_nil ?_
              exact hJ14 _ _ (jq ++ [y], jw ++ [y], l') (by simp at hli ⊢; omega) (TEnt.toH (by simp [qst]) ⟨rfl, rfl, rfl, rfl, rfl, trivial⟩)
            · (try simp only [decide_eq_true_eq, decide_eq_false_iff_not, beq_iff_eq, beq_eq_false_iff_ne, bne_iff_ne, bne_eq_false_iff_eq, ne_eq, Bool.not_eq_true', Bool.not_eq_false'] at hc)
              simp at hc
          · (try simp only [decide_eq_true_eq, decide_eq_false_iff_not, beq_iff_eq, beq_eq_false_iff_ne, bne_iff_ne, bne_eq_false_iff_eq, ne_eq, Bool.not_eq_true', Bool.not_eq_false'] at hb)
            have hl0 : l = [] := by
              cases l with
              | nil => rfl
              | cons y l' => simp at hb
            subst hl0
            refine ro_skip rfl rfl ?_
            refine ro_skip rfl rfl ?_
            refine ro_skip rfl rfl ?_
            refine ro_skip rfl rfl ?_
            refine ro_skip rfl rfl ?_
            refine ro rfl rfl (OpOk.step (ok_pickb (t := false) (d := false) rfl rfl rfl)) ?_
            refine ro rfl rfl (OpOk.step (ok_pickb (t := false) (d := false) rfl rfl rfl)) ?_
            refine ro rfl rfl (OpOk.step (ok_moveb (c := false) (.inl rfl) rfl)) ?_
            refine ro rfl rfl (OpOk.step (ok_move (.inl rfl))) ?_
            refine ro rfl rfl (OpOk.step (ok_unOp rfl rfl)) ?_
            refine ro rfl rfl (OpOk.step (OpOk.bool (d := true) (ok_moveb (.inl rfl) rfl) (by simp))) ?_
            refine ro rfl rfl (OpOk.step (ok_move (.inl rfl))) ?_
            refine ro rfl rfl (OpOk.step (OpOk.bool (d := false) (ok_binOp rfl ti_int rfl) (by simp))) ?_
            refine ro rfl rfl (OpOk.step (ok_pickb (t := true) (d := false) rfl rfl rfl)) ?_
            refine ro rfl rfl (OpOk.step (ok_pickb (t := false) (d := false) rfl rfl rfl)) ?_
            refine ro_nil ?_
            refine keepK hK24 [0, 1, 5, 6, 7, 10, 82] (by dsimp) (by dsimp) ?_
            refine T.cond_false rfl ?_
            refine T.skip ?_
            refine keepK hK23 [0, 1, 5, 6, 7, 10] (by dsimp) (by dsimp) ?_
            refine T.seq fun K26 hK26 => ?_
            refine T.region ?_ -- region 17
            refine ro rfl rfl (OpOk.step (ok_move (.inl rfl))) ?_
            refine ro_nil ?_
            refine keepK hK26 [0, 1, 5, 6, 7, 83] (by dsimp) (by dsimp) ?_
            refine T.cond rfl (fun hc => ?_) (fun hc => ?_) -- cond 5
            · (try simp only [decide_eq_true_eq, decide_eq_false_iff_not, beq_iff_eq, beq_eq_false_iff_ne, bne_iff_ne, bne_eq_false_iff_eq, ne_eq, Bool.not_eq_true', Bool.not_eq_false'] at hc)
              simp at hc
            · (try simp only [decide_eq_true_eq, decide_eq_false_iff_not, beq_iff_eq, beq_eq_false_iff_ne, bne_iff_ne, bne_eq_false_iff_eq, ne_eq, Bool.not_eq_true', Bool.not_eq_false'] at hc)
              refine T.skip ?_
              exact hJ14 _ _ (jq, jw, []) (by simp) (TEnt.toH (by simp [qst]) ⟨rfl, rfl, rfl, rfl, rfl, trivial⟩)
      refine T.seq fun K27 hK27 => ?_
      clear hli
      obtain ⟨kq, kw, m⟩ := j
      dsimp only [qst] at hj ⊢
      have hm60 : m.length ≤ 60 := by omega
      refine T.region ?_ -- region 19
      refine ro rfl rfl (OpOk.step (ok_move (.inl rfl))) ?_
      refine ro rfl rfl (ok_call rfl rfl rfl (((qall_ok kq m (rm room) (by omega)).pass [0, 1] (by decide) (by simp) (by simp [normH, hget, QQ, IB, Blk.ren, renL, AV.ren, renL_ints]; rfl) rfl).eq (x' := .sl 3 0 m.length) (H'' := [some (QQ kq.length m.length (rm room)), some (IB (kq ++ m)), some (IB (kw ++ m)), some (IB m)]) rfl (by simp [mergeH, setIds, renH, QQ, IB, Blk.ren, renL, AV.ren, renL_ints, Go.AM.back]))) ?_
      refine ro rfl rfl (OpOk.step (ok_move (.inr rfl))) ?_
      refine ro_nil ?_
      refine keepK hK27 [0, 1, 5, 6, 7, 11] (by dsimp) (by dsimp) ?_
      refine T.seq fun K28 hK28 => ?_
      refine T.seq fun K29 hK29 => ?_
      refine T.region ?_ -- region 20
      refine ro rfl rfl (OpOk.step (ok_move (.inl rfl))) ?_
      refine ro rfl rfl (ok_call rfl rfl rfl (((qlen_ok kq m (rm room)).pass [0, 1] (by decide) (by simp) (by simp [normH, hget, QQ, IB, Blk.ren, renL, AV.ren, renL_ints]; rfl) rfl).eq (x' := .int m.length) (H'' := [some (QQ kq.length m.length (rm room)), some (IB (kq ++ m)), some (IB (kw ++ m)), some (IB m)]) rfl (by simp [mergeH, setIds, renH, QQ, IB, Blk.ren, renL, AV.ren, renL_ints, Go.AM.back]))) ?_
      refine ro rfl rfl (OpOk.step (ok_move (.inl rfl))) ?_
      refine ro rfl rfl (OpOk.step (ok_len' rfl rfl ti_Lint rfl (by first | exact ints_length _ _ | exact rowsA_length _ _ | exact Cms_len _ | exact mapLen _ | rfl))) ?_
      refine ro rfl rfl (OpOk.step (ok_binOp rfl ti_int rfl)) ?_
      refine ro rfl rfl (OpOk.step (OpOk.bool (d := false) (ok_moveb (.inl rfl) rfl) (by simp))) ?_
      refine ro rfl rfl (OpOk.step (ok_move (.inl rfl))) ?_
      refine ro rfl rfl (OpOk.step (ok_len' rfl rfl ti_Lint rfl (by first | exact ints_length _ _ | exact rowsA_length _ _ | exact Cms_len _ | exact mapLen _ | rfl))) ?_
      refine ro rfl rfl (OpOk.step (ok_move (.inl rfl))) ?_
      refine ro rfl rfl (OpOk.step (ok_len' rfl rfl ti_Lint rfl (by first | exact ints_length _ _ | exact rowsA_length _ _ | exact Cms_len _ | exact mapLen _ | rfl))) ?_
      refine ro rfl rfl (OpOk.step (ok_binOp rfl ti_int rfl)) ?_
      refine ro rfl rfl (OpOk.step (OpOk.bool (d := false) (ok_pickb rfl rfl rfl) (by simp))) ?_
      refine ro_nil ?_
      refine keepK hK29 [0, 1, 5, 6, 7, 11, 99] (by dsimp) (by dsimp) ?_
      refine T.cond_false rfl ?_
      refine T.skip ?_
      refine keepK hK28 [0, 1, 5, 6, 7, 11] (by dsimp) (by dsimp) ?_
      refine T.seq fun K30 hK30 => ?_
      refine T.region ?_ -- region 22
      refine ro rfl rfl (OpOk.step (ok_move (.inr rfl))) ?_
      refine ro_nil ?_
      refine keepK hK30 [0, 1, 5, 6, 7, 11, 12] (by dsimp) (by dsimp) ?_
      refine T.block ?_
      refine T.loopI (ι := Nat) (fun k => k ≤ m.length) (fun k => m.length - k) (fun k => ([(0, .int room), (1, .fz 2 (Acts acts)), (5, .ref 0 0 0), (6, .sl 2 kw.length m.length), (7, .int i), (11, .sl 3 0 m.length), (12, .int k)], [some (QQ kq.length m.length (rm room)), some (IB (kq ++ m)), some (IB (kw ++ m)), some (IB m)])) 0 (Nat.zero_le _) (TEnt.toH rfl ⟨rfl, rfl, rfl, rfl, rfl, rfl, rfl, trivial⟩) (fun i hi => ?_) -- loop 2
      rename Nat => k
      rename k ≤ m.length => hkm0
      refine T.seq fun K31 hK31 => ?_
      refine T.seq fun K32 hK32 => ?_
      refine T.region ?_ -- region 23
      refine ro rfl rfl (OpOk.step (ok_move (.inl rfl))) ?_
      refine ro rfl rfl (OpOk.step (ok_move (.inl rfl))) ?_
      refine ro rfl rfl (OpOk.step (ok_len' rfl rfl ti_Lint rfl (by first | exact ints_length _ _ | exact rowsA_length _ _ | exact Cms_len _ | exact mapLen _ | rfl))) ?_
      refine ro rfl rfl (OpOk.step (ok_binOp rfl ti_int rfl)) ?_
      refine ro_nil ?_
      refine keepK hK32 [0, 1, 5, 6, 7, 11, 12, 103] (by dsimp) (by dsimp) ?_
      refine T.cond rfl (fun hc => ?_) (fun hc => ?_) -- cond 6
      · (try simp only [decide_eq_true_eq, decide_eq_false_iff_not, beq_iff_eq, beq_eq_false_iff_ne, bne_iff_ne, bne_eq_false_iff_eq, ne_eq, Bool.not_eq_true', Bool.not_eq_false'] at hc)
        have hkm : k < m.length := by first | omega | (simp at hc; omega)
        obtain ⟨z, hz⟩ : ∃ z, m[k]? = some z := ⟨_, List.getElem?_eq_getElem hkm⟩
        refine T.skip ?_
        refine keepK hK31 [0, 1, 5, 6, 7, 11, 12] (by dsimp) (by dsimp) ?_
        refine T.seq fun K33 hK33 => ?_
        refine T.block ?_
        refine T.seq fun K34 hK34 => ?_
        refine T.drawH mixed [] ?_ -- region 25
        refine any_take 0 rfl (by first | rfl | decide +kernel) rfl (HeldL.refl _) (fun H' hH => OpOk.step (ok_move (.inl rfl))) ?_
        refine any_take 1 rfl (by first | rfl | decide +kernel) rfl (HeldL.refl _) (fun H' hH => OpOk.step (ok_move (.inl rfl))) ?_
        refine any_take 2 rfl (by first | rfl | decide +kernel) rfl (HeldL.refl _) (fun H' hH => OpOk.step ((ok_index_sl rfl ti_Lint rfl ti_int rfl (hH.get rfl) rfl rfl (by omega) (by omega)).eq (x' := .ref 3 k 0) (by simp) rfl)) ?_
        refine any_take 3 rfl (by first | rfl | decide +kernel) rfl (HeldL.refl _) (fun H' hH => OpOk.step (by exact ok_load_ints (b := IB m) (k := .i64) (y := z) rfl ti_int rfl rfl (hH.get rfl) rfl hz)) ?_
        refine any_take 4 rfl (by first | rfl | decide +kernel) rfl (HeldL.refl _) (fun H' hH => OpOk.step (ok_move (.inl rfl))) ?_
        refine any_take 5 rfl (by first | rfl | decide +kernel) rfl (HeldL.refl _) (fun H' hH => OpOk.step (ok_move (.inl rfl))) ?_
        refine any_take 6 rfl (by first | rfl | decide +kernel) rfl (HeldL.refl _) (fun H' hH => OpOk.step ((ok_index_sl rfl ti_Lint rfl ti_int rfl (hH.get rfl) rfl rfl (by omega) (by omega)).eq (x' := .ref 2 (kw.length + k) 0) (by simp) rfl)) ?_
        refine any_take 7 rfl (by first | rfl | decide +kernel) rfl (HeldL.refl _) (fun H' hH => OpOk.step (by exact ok_load_ints (b := IB (kw ++ m)) (k := .i64) (y := z) rfl ti_int rfl rfl (hH.get rfl) rfl (by rw [List.getElem?_append_right (by omega), Nat.add_sub_cancel_left]; exact hz))) ?_
        refine any_take 8 rfl (by first | rfl | decide +kernel) rfl (HeldL.refl _) (fun H' hH => OpOk.step (ok_binOp rfl ti_int rfl)) ?_
        refine any_done rfl ?_
        refine keepK hK34 [0, 1, 5, 6, 7, 11, 12, 114] (by dsimp) (by dsimp) ?_
        refine T.cond rfl (fun hc => ?_) (fun hc => ?_) -- cond 7
        · (try simp only [decide_eq_true_eq, decide_eq_false_iff_not, beq_iff_eq, beq_eq_false_iff_ne, bne_iff_ne, bne_eq_false_iff_eq, ne_eq, Bool.not_eq_true', Bool.not_eq_false'] at hc)
          exact absurd trivial hc
        · (try simp only [decide_eq_true_eq, decide_eq_false_iff_not, beq_iff_eq, beq_eq_false_iff_ne, bne_iff_ne, bne_eq_false_iff_eq, ne_eq, Bool.not_eq_true', Bool.not_eq_false'] at hc)
          refine T.skip ?_
          refine keepK hK33 [0, 1, 5, 6, 7, 11, 12] (by dsimp) (by dsimp) ?_
          refine T.region ?_ -- region 24
          refine ro rfl rfl (OpOk.step (ok_move (.inl rfl))) ?_
          refine ro rfl rfl (OpOk.step (ok_add64 rfl ti_int rfl rfl (by omega) (by omega))) ?_
          refine ro rfl rfl (OpOk.step (ok_move (.inr rfl))) ?_
          refine ro_nil ?_
          exact ⟨k + 1, by omega, by omega, TEnt.toH rfl ⟨rfl, rfl, rfl, rfl, rfl, rfl, rfl, trivial⟩⟩
      · (try simp only [decide_eq_true_eq, decide_eq_false_iff_not, beq_iff_eq, beq_eq_false_iff_ne, bne_iff_ne, bne_eq_false_iff_eq, ne_eq, Bool.not_eq_true', Bool.not_eq_false'] at hc)
        refine T.exit ?_
        refine keepK hK11 [0, 1, 5, 6, 7] (by dsimp) (by dsimp) ?_
        refine T.region ?_ -- region 7
        refine ro rfl rfl (OpOk.step (ok_move (.inl rfl))) ?_
        refine ro rfl rfl (OpOk.step (ok_add64 rfl ti_int rfl rfl (by omega) (by omega))) ?_
        refine ro rfl rfl (OpOk.step (ok_move (.inr rfl))) ?_
        refine ro_nil ?_
        exact ⟨(i + 1, kq, kw, m), ⟨by omega, hj⟩, by omega, TEnt.fin [0, 1, 2] (by decide) (by simp) (by simp [normH, hget, QQ, IB, Blk.ren, renL, AV.ren, renL_ints]; rfl) ⟨rfl, by simp [AV.ren, Acts_ren], rfl, rfl, rfl, trivial⟩⟩
    · (try simp only [decide_eq_true_eq, decide_eq_false_iff_not, beq_iff_eq, beq_eq_false_iff_ne, bne_iff_ne, bne_eq_false_iff_eq, ne_eq, Bool.not_eq_true', Bool.not_eq_false'] at hc)
      refine T.exit ?_
      refine keepK hK7 [] (by dsimp) (by dsimp) ?_
      refine T.seq fun K35 hK35 => ?_
      refine T.region ?_ -- region 27
      refine ro rfl rfl (OpOk.step (ok_move (.inr rfl))) ?_
      refine ro_nil ?_
      refine keepK hK35 [13] (by dsimp) (by dsimp) ?_
      refine T.seq fun K36 hK36 => ?_
      refine T.region ?_ -- region 28
      refine ro rfl rfl (OpOk.step (ok_move (.inl rfl))) ?_
      refine ro rfl rfl (ok_call rfl rfl rfl (spop_nil.plain rfl rfl)) ?_
      refine ro rfl rfl (OpOk.step (ok_move (.inl rfl))) ?_
      refine ro rfl rfl (OpOk.step (ok_extract rfl rfl rfl)) ?_
      refine ro rfl rfl (OpOk.step (ok_extract rfl rfl rfl)) ?_
      refine ro rfl rfl (OpOk.step (ok_move (.inr rfl))) ?_
      refine ro rfl rfl (OpOk.step (ok_move (.inr rfl))) ?_
      refine ro_nil ?_
      refine keepK hK36 [13, 14, 15] (by dsimp) (by dsimp) ?_
      refine T.seq fun K37 hK37 => ?_
      refine T.region ?_ -- region 29
      refine ro rfl rfl (OpOk.step (ok_move (.inl rfl))) ?_
      refine ro rfl rfl (OpOk.step (ok_binOp rfl ti_string rfl)) ?_
      refine ro rfl rfl (OpOk.step (OpOk.bool (d := true) (ok_moveb (.inl rfl) rfl) (by simp))) ?_
      refine ro rfl rfl (OpOk.step (ok_move (.inl rfl))) ?_
      refine ro rfl rfl (OpOk.step (ok_unOp rfl rfl)) ?_
      refine ro rfl rfl (OpOk.step (ok_pick rfl rfl)) ?_
      refine ro rfl rfl (OpOk.step (OpOk.bool (d := true) (ok_moveb (.inl rfl) rfl) (rfl))) ?_
      refine ro rfl rfl (OpOk.step (ok_move (.inl rfl))) ?_
      refine ro rfl rfl (ok_call rfl rfl rfl ((spush_nil ⟨#[97]⟩).plain rfl rfl)) ?_
      refine ro rfl rfl (OpOk.step (ok_unOp rfl rfl)) ?_
      refine ro rfl rfl (OpOk.step (ok_pick rfl rfl)) ?_
      refine ro rfl rfl (OpOk.step (OpOk.bool (d := true) (ok_moveb (.inl rfl) rfl) (rfl))) ?_
      refine ro rfl rfl (OpOk.step (ok_move (.inl rfl))) ?_
      refine ro rfl rfl (ok_call rfl rfl rfl (slen_nil.plain rfl rfl)) ?_
      refine ro rfl rfl (OpOk.step (ok_binOp rfl ti_int rfl)) ?_
      refine ro rfl rfl (OpOk.step (ok_pick rfl rfl)) ?_
      refine ro rfl rfl (OpOk.step (OpOk.bool (d := true) (ok_moveb (.inl rfl) rfl) (rfl))) ?_
      refine ro rfl rfl (OpOk.step (ok_move (.inl rfl))) ?_
      refine ro rfl rfl (ok_call rfl rfl rfl (sall_nil.plain rfl rfl)) ?_
      refine ro rfl rfl (OpOk.step (ok_len' rfl rfl ti_Lstring rfl (by first | exact ints_length _ _ | exact rowsA_length _ _ | exact Cms_len _ | exact mapLen _ | rfl))) ?_
      refine ro rfl rfl (OpOk.step (ok_binOp rfl ti_int rfl)) ?_
      refine ro rfl rfl (OpOk.step (ok_pick rfl rfl)) ?_
      refine ro rfl rfl (OpOk.step (OpOk.bool (d := true) (ok_moveb (.inl rfl) rfl) (rfl))) ?_
      refine ro rfl rfl (ok_call rfl rfl rfl (live34_ok.plain rfl rfl)) ?_
      refine ro rfl rfl (OpOk.step (ok_pick rfl rfl)) ?_
      refine ro rfl rfl (OpOk.step (ok_move (.inr rfl))) ?_
      refine ro_nil ?_
      refine keepK hK37 [4] (by dsimp) (by dsimp) ?_
      refine T.ret (hQ _ _ _ rfl ?_).1 -- ret 2
      exact TEnt.fin [] (by decide) (by simp) rfl ⟨rfl, trivial⟩
theorem acts_row (l : List (Bool × Int)) : (l.map fun x => AV.agg [.v (.bool x.1), .v (.int .i64 x.2)]) = Acts l := rfl
theorem queuePlays_row (room : Int) (l : List (Bool × Int)) (hl : l.length ≤ 140737488355328) : CSpec Try.prog 7 [] [.int room, .fz 2 (l.map fun x => .agg [.v (.bool x.1), .v (.int .i64 x.2)])] [] (.b true) := queuePlays_ok room l hl
end Go.Proofs.Ytknhemdpfdopaaa.AmF
