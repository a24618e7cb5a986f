/- Walks over the abstract machine: the stripe that a zone is at: New, and the page's example. -/
import Derived.Test.YtknhemdpfdopaaaAfStripe3
namespace Go.Proofs.Ytknhemdpfdopaaa.AmF
open Go Go.AM
set_option maxRecDepth 100000
set_option linter.unusedSimpArgs false
set_option linter.unusedVariables false
attribute [local simp] tkeep tget tput ev cav argsTM pickA normT putA splice AV.cells ints_length rowsA_length fit_len zipx_len upd_len cs_len ovr_len
/-- A nil row within a struct, as an empty block of its own. -/
theorem _root_.Go.AM.TEnt.emptyAt {k : Nat} {tm : TM} {H : Heap} (t i es : Nat) (he : 0 < es) {l : List AV} (h : tget tm t = .agg l) (hi : l[i]? = some (.v (.slice none 0 0))) : TEnt k tm H ((t, .agg (l.set i (.sl H.length 0 0))) :: tm) (H ++ [some ⟨es, true, []⟩]) := by
  intro g vs hH hk hg ht
  subst hH
  obtain ⟨hgv, hsv⟩ := vpush_ok he hg
  refine ⟨g.vpush es, rfl, rfl, hgv, fun t' => ?_, hsv.ext, hsv.pin hk⟩
  simp only [tget]
  by_cases ht' : t = t'
  · subst ht'
    rw [if_pos rfl]
    have hr := Rel.mono hsv.ren (ht t)
    rw [h] at hr
    simp only [Rel] at hr ⊢
    obtain ⟨cs, e1, hl⟩ := hr
    obtain ⟨y, hy, hyr⟩ := hl.get hi
    simp only [Rel] at hyr
    subst hyr
    have hset : cs.toList.set i (.slice none 0 0) = cs.toList := by
      apply List.ext_getElem?
      intro j
      rw [List.getElem?_set]
      by_cases hj : i = j
      · subst hj
        have := (List.getElem?_eq_some_iff.1 hy).1
        rw [if_pos rfl, if_pos this, hy]
      · rw [if_neg hj]
    refine ⟨cs, e1, ?_⟩
    rw [← hset]
    refine RelL.set i hl ?_
    simp only [Rel]
    refine ⟨by simp [G.vpush], none, 0, rfl, fun k' hk' => ⟨Nat.le_refl _, ?_, fun h => absurd rfl h⟩⟩
    have e1 : (g.vpush es).sz g.H.length = 0 := by simp [G.vpush]
    have e2 : (g.vpush es).bs g.H.length = 0 := by simp [G.vpush]
    rw [e1, e2]; simp
  · rw [if_neg ht']
    exact Rel.mono hsv.ren (ht t')
/-- The error of New. -/
def rightE (c : Cf) (w : Int) (ls : List (List Int)) : Int :=
  if chkC c ≠ 0 then chkC c else if w < 0 ∨ w > sizeC c ∨ (ls.length : Int) ≠ w % rowC c then 1 else if ls.all (fun l => decide ((l.length : Int) = c.blk)) = true then 0 else 3
def newA (c : Cf) (w : Int) (ls : List (List Int)) : AV := .tup [.agg (if rightE c w ls = 0 then BufC c w ls else BufC c00 0 []), .int (rightE c w ls)]
theorem new_err (H : Heap) (e : Int) : Ent H (.tup [.agg (CC c00 ++ [.int 0, .v (.slice none 0 0)]), .int e]) (.tup [.agg (BufC c00 0 []), .int e]) := Ent.tup' (EntL.cons (buf_ent _ _ _) (EntL.refl _))
theorem newA_err {c : Cf} {w : Int} {ls : List (List Int)} {e : Int} (h : rightE c w ls = e) (h0 : e ≠ 0) : newA c w ls = .tup [.agg (BufC c00 0 []), .int e] := by
  unfold newA
  rw [h, if_neg h0]
theorem all_bad {ls : List (List Int)} {b : Int} {n : Nat} {x : List Int} (hx : ls[n]? = some x) (h : (x.length : Int) ≠ b) : ¬ (ls.all fun l => decide ((l.length : Int) = b)) = true := by
  intro h2
  have := List.all_eq_true.1 h2 x (List.mem_of_getElem? hx)
  exact h (of_decide_eq_true this)
theorem rright_ok (c : Cf) (w : Int) (ls : List (List Int)) (hn : ls.length ≤ 140737488355328) : CSpec Try.prog 49 [] [.agg (CC c), .int w, .fz 1 (rowsA .u8 ls)] [] (.int (rightE c w ls)) := by
  refine CSpec.body Try.func49 rfl rfl rfl rfl rfl fun Q hQ => ?_
  refine T.seq fun K1 hK1 => ?_
  refine T.region ?_ -- region 0
  refine ro rfl rfl (OpOk.step (ok_box (n := 11) rfl rfl (by decide))) ?_
  refine ro rfl rfl (OpOk.step (ok_move (.inr rfl))) ?_
  refine ro_nil ?_
  refine keepK hK1 [1, 2, 3] (by dsimp) (by dsimp) ?_
  refine T.seq fun K2 hK2 => ?_
  refine T.seq fun K3 hK3 => ?_
  refine T.region ?_ -- region 1
  refine ro rfl rfl (OpOk.step (ok_load rfl ti_api_Conf rfl rfl)) ?_
  refine ro rfl rfl (ok_call rfl rfl rfl ((rcheck_ok c).plain (by simp [renL, AV.ren, CC_take', CC_ren]) rfl)) ?_
  refine ro rfl rfl (OpOk.step (ok_binOp rfl ti_int rfl)) ?_
  refine ro_nil ?_
  refine keepK hK3 [1, 2, 3, 10] (by dsimp) (by dsimp) ?_
  refine T.cond rfl (fun hc => ?_) (fun hc => ?_) -- cond 1
  · (try simp only [decide_eq_true_eq, decide_eq_false_iff_not, beq_iff_eq, beq_eq_false_iff_ne, bne_iff_ne, bne_eq_false_iff_eq, ne_eq, Bool.not_eq_true', Bool.not_eq_false'] at hc)
    rw [show rightE c w ls = chkC c from if_pos hc] at hQ
    refine T.seq fun K4 hK4 => ?_
    refine T.region ?_ -- region 2
    refine ro rfl rfl (OpOk.step (ok_load rfl ti_api_Conf rfl rfl)) ?_
    refine ro rfl rfl (ok_call rfl rfl rfl ((rcheck_ok c).plain (by simp [renL, AV.ren, CC_take', CC_ren]) rfl)) ?_
    refine ro rfl rfl (OpOk.step (ok_move (.inr rfl))) ?_
    refine ro_nil ?_
    refine keepK hK4 [6] (by dsimp) (by dsimp) ?_
    refine T.ret (hQ _ _ _ rfl ?_).1 -- ret 1
    exact TEnt.fin [] (by decide) (by simp) rfl ⟨rfl, trivial⟩
  · (try simp only [decide_eq_true_eq, decide_eq_false_iff_not, beq_iff_eq, beq_eq_false_iff_ne, bne_iff_ne, bne_eq_false_iff_eq, ne_eq, Bool.not_eq_true', Bool.not_eq_false'] at hc)
    have hchk : chkC c = 0 := by omega
    have hrb := row_bd hchk
    have hE : rightE c w ls = if w < 0 ∨ w > sizeC c ∨ (ls.length : Int) ≠ w % rowC c then 1 else if ls.all (fun l => decide ((l.length : Int) = c.blk)) = true then 0 else 3 := if_neg (by omega)
    refine T.skip ?_
    refine keepK hK2 [1, 2, 3] (by dsimp) (by dsimp) ?_
    refine T.seq fun K5 hK5 => ?_
    refine T.seq fun K6 hK6 => ?_
    refine T.region ?_ -- region 3
    refine ro rfl rfl (OpOk.step (ok_move (.inl rfl))) ?_
    refine ro rfl rfl (OpOk.step (ok_binOp rfl ti_int rfl)) ?_
    refine ro_case rfl rfl (OpOk.step (ok_moveb (.inl rfl) rfl)) (fun hb => ?_) (fun hb => ?_)
    · (try simp only [decide_eq_true_eq, decide_eq_false_iff_not, beq_iff_eq, beq_eq_false_iff_ne, bne_iff_ne, bne_eq_false_iff_eq, ne_eq, Bool.not_eq_true', Bool.not_eq_false'] at hb)
      refine ro_skip rfl rfl ?_
      refine ro_skip rfl rfl ?_
      refine ro_skip rfl rfl ?_
      refine ro_skip rfl rfl ?_
      refine ro rfl rfl (OpOk.step (ok_pickb (t := true) (d := true) rfl rfl rfl)) ?_
      refine ro rfl rfl (OpOk.step (ok_moveb (c := true) (.inl rfl) rfl)) ?_
      refine ro_skip rfl rfl ?_
      refine ro_skip rfl rfl ?_
      refine ro_skip rfl rfl ?_
      refine ro_skip rfl rfl ?_
      refine ro_skip rfl rfl ?_
      refine ro_skip rfl rfl ?_
      refine ro_skip rfl rfl ?_
      refine ro rfl rfl (OpOk.step (ok_pickb (t := true) (d := true) rfl rfl rfl)) ?_
      refine ro_nil ?_
      refine keepK hK6 [2, 3, 29] (by dsimp) (by dsimp) ?_
      refine T.cond_true rfl ?_
      refine T.seq fun K7 hK7 => ?_
      rw [hE, if_pos (by omega)] at hQ
      refine T.region ?_ -- region 4
      refine ro rfl rfl (OpOk.step (ok_move (.inr rfl))) ?_
      refine ro_nil ?_
      refine keepK hK7 [6] (by dsimp) (by dsimp) ?_
      refine T.ret (hQ _ _ _ rfl ?_).1 -- ret 2
      exact TEnt.fin [] (by decide) (by simp) rfl ⟨rfl, trivial⟩
    · (try simp only [decide_eq_true_eq, decide_eq_false_iff_not, beq_iff_eq, beq_eq_false_iff_ne, bne_iff_ne, bne_eq_false_iff_eq, ne_eq, Bool.not_eq_true', Bool.not_eq_false'] at hb)
      refine ro rfl rfl (OpOk.step (ok_move (.inl rfl))) ?_
      refine ro rfl rfl (OpOk.step (ok_load rfl ti_api_Conf rfl rfl)) ?_
      refine ro rfl rfl (ok_call rfl rfl rfl ((rsize_ok c).plain (by simp [renL, AV.ren, CC_take', CC_ren]) rfl)) ?_
      refine ro rfl rfl (OpOk.step (ok_binOp rfl ti_int rfl)) ?_
      refine ro rfl rfl (OpOk.step (ok_pick rfl rfl)) ?_
      refine ro_case rfl rfl (OpOk.step (ok_moveb (.inl rfl) rfl)) (fun hb => ?_) (fun hb => ?_)
      · (try simp only [decide_eq_true_eq, decide_eq_false_iff_not, beq_iff_eq, beq_eq_false_iff_ne, bne_iff_ne, bne_eq_false_iff_eq, ne_eq, Bool.not_eq_true', Bool.not_eq_false'] at hb)
        refine ro_skip rfl rfl ?_
        refine ro_skip rfl rfl ?_
        refine ro_skip rfl rfl ?_
        refine ro_skip rfl rfl ?_
        refine ro_skip rfl rfl ?_
        refine ro_skip rfl rfl ?_
        refine ro_skip rfl rfl ?_
        refine ro rfl rfl (OpOk.step (ok_pickb (t := true) (d := true) rfl rfl rfl)) ?_
        refine ro_nil ?_
        refine keepK hK6 [2, 3, 29] (by dsimp) (by dsimp) ?_
        refine T.cond_true rfl ?_
        refine T.seq fun K8 hK8 => ?_
        rw [hE, if_pos (by omega)] at hQ
        refine T.region ?_ -- region 4
        refine ro rfl rfl (OpOk.step (ok_move (.inr rfl))) ?_
        refine ro_nil ?_
        refine keepK hK8 [6] (by dsimp) (by dsimp) ?_
        refine T.ret (hQ _ _ _ rfl ?_).1 -- ret 3
        exact TEnt.fin [] (by decide) (by simp) rfl ⟨rfl, trivial⟩
      · (try simp only [decide_eq_true_eq, decide_eq_false_iff_not, beq_iff_eq, beq_eq_false_iff_ne, bne_iff_ne, bne_eq_false_iff_eq, ne_eq, Bool.not_eq_true', Bool.not_eq_false'] at hb)
        refine ro rfl rfl (OpOk.step (ok_move (.inl rfl))) ?_
        refine ro rfl rfl (OpOk.step (ok_len' rfl rfl ti_LLuint8 rfl (by first | exact ints_length _ _ | exact rowsA_length _ _ | exact Cms_len _ | exact mapLen _ | rfl))) ?_
        refine ro rfl rfl (OpOk.step (ok_move (.inl rfl))) ?_
        refine ro rfl rfl (OpOk.step (ok_load rfl ti_api_Conf rfl rfl)) ?_
        refine ro rfl rfl (ok_call rfl rfl rfl ((rrow_ok c).plain (by simp [renL, AV.ren, CC_take', CC_ren]) rfl)) ?_
        refine ro rfl rfl (OpOk.step (ok_rem64 rfl ti_int rfl rfl (by omega) (by omega))) ?_
        refine ro rfl rfl (OpOk.step (ok_binOp rfl ti_int rfl)) ?_
        refine ro rfl rfl (OpOk.step (ok_pick rfl rfl)) ?_
        refine ro_nil ?_
        refine keepK hK6 [2, 3, 29] (by dsimp) (by dsimp) ?_
        refine T.cond rfl (fun hc => ?_) (fun hc => ?_) -- cond 2
        · (try simp only [decide_eq_true_eq, decide_eq_false_iff_not, beq_iff_eq, beq_eq_false_iff_ne, bne_iff_ne, bne_eq_false_iff_eq, ne_eq, Bool.not_eq_true', Bool.not_eq_false'] at hc)
          refine T.seq fun K9 hK9 => ?_
          rw [hE, if_pos (by omega)] at hQ
          refine T.region ?_ -- region 4
          refine ro rfl rfl (OpOk.step (ok_move (.inr rfl))) ?_
          refine ro_nil ?_
          refine keepK hK9 [6] (by dsimp) (by dsimp) ?_
          refine T.ret (hQ _ _ _ rfl ?_).1 -- ret 4
          exact TEnt.fin [] (by decide) (by simp) rfl ⟨rfl, trivial⟩
        · (try simp only [decide_eq_true_eq, decide_eq_false_iff_not, beq_iff_eq, beq_eq_false_iff_ne, bne_iff_ne, bne_eq_false_iff_eq, ne_eq, Bool.not_eq_true', Bool.not_eq_false'] at hc)
          refine T.skip ?_
          refine keepK hK5 [2, 3] (by dsimp) (by dsimp) ?_
          refine T.seq fun K10 hK10 => ?_
          refine T.seq fun K11 hK11 => ?_
          have hgood : ¬ (w < 0 ∨ w > sizeC c ∨ (ls.length : Int) ≠ w % rowC c) := by omega
          rw [if_neg hgood] at hE
          refine T.region ?_ -- region 5
          refine ro rfl rfl (OpOk.step (ok_move (.inr rfl))) ?_
          refine ro_nil ?_
          refine keepK hK11 [2, 3, 7] (by dsimp) (by dsimp) ?_
          refine T.block ?_
          refine T.loopI (ι := Nat) (fun i => i ≤ ls.length ∧ ((ls.take i).all fun l => decide ((l.length : Int) = c.blk)) = true) (fun i => ls.length - i) (fun i => ([(2, .fz 1 (rowsA .u8 ls)), (3, .ref 0 0 0), (7, .int i)], [some (CB c)])) 0 ⟨Nat.zero_le _, rfl⟩ (TEnt.toH rfl ⟨rfl, rfl, rfl, trivial⟩) (fun i hi => ?_) -- loop 1
          obtain ⟨hil, hall⟩ := hi
          refine T.seq fun K12 hK12 => ?_
          refine T.seq fun K13 hK13 => ?_
          refine T.region ?_ -- region 6
          refine ro rfl rfl (OpOk.step (ok_move (.inl rfl))) ?_
          refine ro rfl rfl (OpOk.step (ok_move (.inl rfl))) ?_
          refine ro rfl rfl (OpOk.step (ok_len' rfl rfl ti_LLuint8 rfl (by first | exact ints_length _ _ | exact rowsA_length _ _ | exact Cms_len _ | exact mapLen _ | rfl))) ?_
          refine ro rfl rfl (OpOk.step (ok_binOp rfl ti_int rfl)) ?_
          refine ro_nil ?_
          refine keepK hK13 [2, 3, 7, 33] (by dsimp) (by dsimp) ?_
          refine T.cond rfl (fun hc => ?_) (fun hc => ?_) -- cond 3
          · (try simp only [decide_eq_true_eq, decide_eq_false_iff_not, beq_iff_eq, beq_eq_false_iff_ne, bne_iff_ne, bne_eq_false_iff_eq, ne_eq, Bool.not_eq_true', Bool.not_eq_false'] at hc)
            obtain ⟨x, hx⟩ : ∃ x, ls[i]? = some x := ⟨_, List.getElem?_eq_getElem (by omega)⟩
            have htk := take_succ_get hx
            refine T.skip ?_
            refine keepK hK12 [2, 3, 7] (by dsimp) (by dsimp) ?_
            refine T.seq fun K14 hK14 => ?_
            refine T.block ?_
            refine T.seq fun K15 hK15 => ?_
            refine T.drawH mixed [] ?_ -- region 8
            refine any_take 0 rfl (by first | rfl | decide +kernel) rfl (HeldL.refl _) (fun H' hH => OpOk.step (ok_move (.inl rfl))) ?_
            refine any_take 1 rfl (by first | rfl | decide +kernel) rfl (HeldL.refl _) (fun H' hH => OpOk.step (ok_move (.inl rfl))) ?_
            refine any_take 2 rfl (by first | rfl | decide +kernel) rfl (HeldL.refl _) (fun H' hH => OpOk.step (by exact ok_index_fz rfl ti_LLuint8 rfl ti_Luint8 rfl rfl rfl (by omega) (rowsA_get_of (by simpa using hx)) rfl)) ?_
            refine any_take 3 rfl (by first | rfl | decide +kernel) rfl (HeldL.refl _) (fun H' hH => OpOk.step (ok_load rfl ti_Luint8 (locA_held hH rfl) rfl)) ?_
            refine any_take 4 rfl (by first | rfl | decide +kernel) rfl (HeldL.refl _) (fun H' hH => OpOk.step (ok_len' rfl rfl ti_Luint8 rfl (by first | exact ints_length _ _ | exact rowsA_length _ _ | exact Cms_len _ | exact mapLen _ | rfl))) ?_
            refine any_take 5 rfl (by first | rfl | decide +kernel) rfl (HeldL.refl _) (fun H' hH => OpOk.step (ok_fieldAddr rfl ti_api_Conf rfl rfl ti_int (by decide) rfl)) ?_
            refine any_take 6 rfl (by first | rfl | decide +kernel) rfl (HeldL.refl _) (fun H' hH => OpOk.step (ok_load rfl ti_int (locA_held hH rfl) rfl)) ?_
            refine any_take 7 rfl (by first | rfl | decide +kernel) rfl (HeldL.refl _) (fun H' hH => OpOk.step (ok_binOp rfl ti_int rfl)) ?_
            refine any_done rfl ?_
            refine keepK hK15 [2, 3, 7, 43] (by dsimp) (by dsimp) ?_
            refine T.cond rfl (fun hc => ?_) (fun hc => ?_) -- cond 4
            · (try simp only [decide_eq_true_eq, decide_eq_false_iff_not, beq_iff_eq, beq_eq_false_iff_ne, bne_iff_ne, bne_eq_false_iff_eq, ne_eq, Bool.not_eq_true', Bool.not_eq_false'] at hc)
              rw [hE, if_neg (all_bad hx hc)] at hQ
              refine T.seq fun K16 hK16 => ?_
              refine T.region ?_ -- region 9
              refine ro rfl rfl (OpOk.step (ok_move (.inr rfl))) ?_
              refine ro_nil ?_
              refine keepK hK16 [6] (by dsimp) (by dsimp) ?_
              refine T.ret (hQ _ _ _ rfl ?_).1 -- ret 5
              exact TEnt.fin [] (by decide) (by simp) rfl ⟨rfl, trivial⟩
            · (try simp only [decide_eq_true_eq, decide_eq_false_iff_not, beq_iff_eq, beq_eq_false_iff_ne, bne_iff_ne, bne_eq_false_iff_eq, ne_eq, Bool.not_eq_true', Bool.not_eq_false'] at hc)
              have hxb : (x.length : Int) = c.blk := by omega
              refine T.skip ?_
              refine keepK hK14 [2, 3, 7] (by dsimp) (by dsimp) ?_
              refine T.region ?_ -- region 7
              refine ro rfl rfl (OpOk.step (ok_move (.inl rfl))) ?_
              refine ro rfl rfl (OpOk.step (ok_add64 rfl ti_int rfl rfl (by omega) (by omega))) ?_
              refine ro rfl rfl (OpOk.step (ok_move (.inr rfl))) ?_
              refine ro_nil ?_
              exact ⟨i + 1, ⟨by omega, by rw [htk, List.all_append, hall]; simp [hxb]⟩, by omega, TEnt.toH rfl ⟨rfl, rfl, rfl, trivial⟩⟩
          · (try simp only [decide_eq_true_eq, decide_eq_false_iff_not, beq_iff_eq, beq_eq_false_iff_ne, bne_iff_ne, bne_eq_false_iff_eq, ne_eq, Bool.not_eq_true', Bool.not_eq_false'] at hc)
            have hin : i = ls.length := by omega
            rw [hin, List.take_length] at hall
            rw [hE, if_pos hall] at hQ
            refine T.exit ?_
            refine keepK hK10 [] (by dsimp) (by dsimp) ?_
            refine T.seq fun K17 hK17 => ?_
            refine T.region ?_ -- region 10
            refine ro rfl rfl (OpOk.step (ok_move (.inr rfl))) ?_
            refine ro_nil ?_
            refine keepK hK17 [6] (by dsimp) (by dsimp) ?_
            refine T.ret (hQ _ _ _ rfl ?_).1 -- ret 6
            exact TEnt.fin [] (by decide) (by simp) rfl ⟨rfl, trivial⟩
set_option maxHeartbeats 2000000 in
theorem bnew_ok (c : Cf) (w : Int) (ls : List (List Int)) (hn : ls.length ≤ 1000000) (hl : ∀ l ∈ ls, l.length ≤ 140737488355328) : CSpec Try.prog 48 [] [.agg (CC c), .int w, .fz 1 (rowsA .u8 ls)] [] (newA c w ls) := by
  refine CSpec.body Try.func48 rfl rfl rfl rfl rfl fun Q hQ => ?_
  refine T.seq fun K1 hK1 => ?_
  refine T.region ?_ -- region 0
  refine ro rfl rfl (OpOk.step (ok_box (n := 11) rfl rfl (by decide))) ?_
  refine ro rfl rfl (OpOk.step (ok_alloc rfl ti_stripe_Buf rfl (by decide))) ?_
  refine ro rfl rfl (OpOk.step (ok_move (.inr rfl))) ?_
  refine ro_nil ?_
  refine keepK hK1 [1, 2, 3, 6] (by dsimp) (by dsimp) ?_
  refine T.seq fun K2 hK2 => ?_
  refine T.seq fun K3 hK3 => ?_
  refine T.region ?_ -- region 1
  refine ro rfl rfl (OpOk.step (ok_load rfl ti_api_Conf rfl rfl)) ?_
  refine ro rfl rfl (ok_call rfl rfl rfl ((check_ok c).plain (by simp [renL, AV.ren, CC_take', CC_ren]) rfl)) ?_
  refine ro rfl rfl (OpOk.step (ok_move (.inr rfl))) ?_
  refine ro_nil ?_
  refine keepK hK3 [1, 2, 3, 6, 8] (by dsimp) (by dsimp) ?_
  refine T.seq fun K4 hK4 => ?_
  refine T.region ?_ -- region 2
  refine ro rfl rfl (OpOk.step (ok_move (.inl rfl))) ?_
  refine ro rfl rfl (OpOk.step (ok_binOp rfl ti_api_Errno rfl)) ?_
  refine ro_nil ?_
  refine keepK hK4 [1, 2, 3, 6, 8, 15] (by dsimp) (by dsimp) ?_
  refine T.cond rfl (fun hc => ?_) (fun hc => ?_) -- cond 1
  · (try simp only [decide_eq_true_eq, decide_eq_false_iff_not, beq_iff_eq, beq_eq_false_iff_ne, bne_iff_ne, bne_eq_false_iff_eq, ne_eq, Bool.not_eq_true', Bool.not_eq_false'] at hc)
    rw [newA_err (e := chkC c) (if_pos hc) hc] at hQ
    refine T.seq fun K5 hK5 => ?_
    refine T.region ?_ -- region 3
    refine ro rfl rfl (OpOk.step (ok_build rfl ti_stripe_Buf rfl)) ?_
    refine ro rfl rfl (OpOk.step (ok_move (.inl rfl))) ?_
    refine ro rfl rfl (OpOk.step (ok_store rfl ti_stripe_Buf (by decide) rfl rfl rfl rfl rfl (by first | exact Nat.le_of_ble_eq_true rfl | simp) (by first | exact .inl ⟨rfl, rfl⟩ | exact .inr rfl))) ?_
    refine ro rfl rfl (OpOk.step (ok_move (.inr rfl))) ?_
    refine ro_nil ?_
    refine keepK hK5 [6, 7] (by dsimp) (by dsimp) ?_
    refine T.ret (hQ _ _ _ rfl ?_).1 -- ret 1
    first
      | exact (TEnt.fin (tm' := [(0, .tup [.agg (CC c00 ++ [.int 0, .v (.slice none 0 0)]), .int (chkC c)])]) [] (by decide) (by simp) rfl ⟨rfl, trivial⟩).trans ((TEnt.put1 0 (new_err _ _)).trans (TEnt.to ⟨rfl, trivial⟩))
      | exact (TEnt.fin (tm' := [(0, .tup [.agg (CC c00 ++ [.int 0, .v (.slice none 0 0)]), .int 1])]) [] (by decide) (by simp) rfl ⟨rfl, trivial⟩).trans ((TEnt.put1 0 (new_err _ _)).trans (TEnt.to ⟨rfl, trivial⟩))
      | exact (TEnt.fin (tm' := [(0, .tup [.agg (CC c00 ++ [.int 0, .v (.slice none 0 0)]), .int 3])]) [] (by decide) (by simp) rfl ⟨rfl, trivial⟩).trans ((TEnt.put1 0 (new_err _ _)).trans (TEnt.to ⟨rfl, trivial⟩))
  · (try simp only [decide_eq_true_eq, decide_eq_false_iff_not, beq_iff_eq, beq_eq_false_iff_ne, bne_iff_ne, bne_eq_false_iff_eq, ne_eq, Bool.not_eq_true', Bool.not_eq_false'] at hc)
    have hchk : chkC c = 0 := by omega
    have hrb := row_bd hchk
    have hE : rightE c w ls = if w < 0 ∨ w > sizeC c ∨ (ls.length : Int) ≠ w % rowC c then 1 else if ls.all (fun l => decide ((l.length : Int) = c.blk)) = true then 0 else 3 := if_neg (by omega)
    refine T.skip ?_
    refine keepK hK2 [1, 2, 3, 6] (by dsimp) (by dsimp) ?_
    refine T.seq fun K6 hK6 => ?_
    refine T.seq fun K7 hK7 => ?_
    refine T.region ?_ -- region 4
    refine ro rfl rfl (OpOk.step (ok_move (.inl rfl))) ?_
    refine ro rfl rfl (OpOk.step (ok_binOp rfl ti_int rfl)) ?_
    refine ro_case rfl rfl (OpOk.step (ok_moveb (.inl rfl) rfl)) (fun hb => ?_) (fun hb => ?_)
    · (try simp only [decide_eq_true_eq, decide_eq_false_iff_not, beq_iff_eq, beq_eq_false_iff_ne, bne_iff_ne, bne_eq_false_iff_eq, ne_eq, Bool.not_eq_true', Bool.not_eq_false'] at hb)
      refine ro_skip rfl rfl ?_
      refine ro_skip rfl rfl ?_
      refine ro_skip rfl rfl ?_
      refine ro_skip rfl rfl ?_
      refine ro rfl rfl (OpOk.step (ok_pickb (t := true) (d := true) rfl rfl rfl)) ?_
      refine ro rfl rfl (OpOk.step (ok_moveb (c := true) (.inl rfl) rfl)) ?_
      refine ro_skip rfl rfl ?_
      refine ro_skip rfl rfl ?_
      refine ro_skip rfl rfl ?_
      refine ro_skip rfl rfl ?_
      refine ro_skip rfl rfl ?_
      refine ro_skip rfl rfl ?_
      refine ro_skip rfl rfl ?_
      refine ro rfl rfl (OpOk.step (ok_pickb (t := true) (d := true) rfl rfl rfl)) ?_
      refine ro_nil ?_
      refine keepK hK7 [1, 2, 3, 6, 34] (by dsimp) (by dsimp) ?_
      refine T.cond_true rfl ?_
      refine T.seq fun K8 hK8 => ?_
      rw [if_pos (by omega)] at hE
      rw [newA_err hE (by omega)] at hQ
      refine T.region ?_ -- region 5
      refine ro rfl rfl (OpOk.step (ok_build rfl ti_stripe_Buf rfl)) ?_
      refine ro rfl rfl (OpOk.step (ok_store rfl ti_stripe_Buf (by decide) rfl rfl rfl rfl rfl (by first | exact Nat.le_of_ble_eq_true rfl | simp) (by first | exact .inl ⟨rfl, rfl⟩ | exact .inr rfl))) ?_
      refine ro rfl rfl (OpOk.step (ok_move (.inr rfl))) ?_
      refine ro_nil ?_
      refine keepK hK8 [6, 7] (by dsimp) (by dsimp) ?_
      refine T.ret (hQ _ _ _ rfl ?_).1 -- ret 2
      first
        | exact (TEnt.fin (tm' := [(0, .tup [.agg (CC c00 ++ [.int 0, .v (.slice none 0 0)]), .int (chkC c)])]) [] (by decide) (by simp) rfl ⟨rfl, trivial⟩).trans ((TEnt.put1 0 (new_err _ _)).trans (TEnt.to ⟨rfl, trivial⟩))
        | exact (TEnt.fin (tm' := [(0, .tup [.agg (CC c00 ++ [.int 0, .v (.slice none 0 0)]), .int 1])]) [] (by decide) (by simp) rfl ⟨rfl, trivial⟩).trans ((TEnt.put1 0 (new_err _ _)).trans (TEnt.to ⟨rfl, trivial⟩))
        | exact (TEnt.fin (tm' := [(0, .tup [.agg (CC c00 ++ [.int 0, .v (.slice none 0 0)]), .int 3])]) [] (by decide) (by simp) rfl ⟨rfl, trivial⟩).trans ((TEnt.put1 0 (new_err _ _)).trans (TEnt.to ⟨rfl, trivial⟩))
    · (try simp only [decide_eq_true_eq, decide_eq_false_iff_not, beq_iff_eq, beq_eq_false_iff_ne, bne_iff_ne, bne_eq_false_iff_eq, ne_eq, Bool.not_eq_true', Bool.not_eq_false'] at hb)
      refine ro rfl rfl (OpOk.step (ok_move (.inl rfl))) ?_
      refine ro rfl rfl (OpOk.step (ok_load rfl ti_api_Conf rfl rfl)) ?_
      refine ro rfl rfl (ok_call rfl rfl rfl ((size_ok c).plain (by simp [renL, AV.ren, CC_take', CC_ren]) rfl)) ?_
      refine ro rfl rfl (OpOk.step (ok_binOp rfl ti_int rfl)) ?_
      refine ro rfl rfl (OpOk.step (ok_pick rfl rfl)) ?_
      refine ro_case rfl rfl (OpOk.step (ok_moveb (.inl rfl) rfl)) (fun hb => ?_) (fun hb => ?_)
      · (try simp only [decide_eq_true_eq, decide_eq_false_iff_not, beq_iff_eq, beq_eq_false_iff_ne, bne_iff_ne, bne_eq_false_iff_eq, ne_eq, Bool.not_eq_true', Bool.not_eq_false'] at hb)
        refine ro_skip rfl rfl ?_
        refine ro_skip rfl rfl ?_
        refine ro_skip rfl rfl ?_
        refine ro_skip rfl rfl ?_
        refine ro_skip rfl rfl ?_
        refine ro_skip rfl rfl ?_
        refine ro_skip rfl rfl ?_
        refine ro rfl rfl (OpOk.step (ok_pickb (t := true) (d := true) rfl rfl rfl)) ?_
        refine ro_nil ?_
        refine keepK hK7 [1, 2, 3, 6, 34] (by dsimp) (by dsimp) ?_
        refine T.cond_true rfl ?_
        refine T.seq fun K9 hK9 => ?_
        rw [if_pos (by omega)] at hE
        rw [newA_err hE (by omega)] at hQ
        refine T.region ?_ -- region 5
        refine ro rfl rfl (OpOk.step (ok_build rfl ti_stripe_Buf rfl)) ?_
        refine ro rfl rfl (OpOk.step (ok_store rfl ti_stripe_Buf (by decide) rfl rfl rfl rfl rfl (by first | exact Nat.le_of_ble_eq_true rfl | simp) (by first | exact .inl ⟨rfl, rfl⟩ | exact .inr rfl))) ?_
        refine ro rfl rfl (OpOk.step (ok_move (.inr rfl))) ?_
        refine ro_nil ?_
        refine keepK hK9 [6, 7] (by dsimp) (by dsimp) ?_
        refine T.ret (hQ _ _ _ rfl ?_).1 -- ret 3
        first
          | exact (TEnt.fin (tm' := [(0, .tup [.agg (CC c00 ++ [.int 0, .v (.slice none 0 0)]), .int (chkC c)])]) [] (by decide) (by simp) rfl ⟨rfl, trivial⟩).trans ((TEnt.put1 0 (new_err _ _)).trans (TEnt.to ⟨rfl, trivial⟩))
          | exact (TEnt.fin (tm' := [(0, .tup [.agg (CC c00 ++ [.int 0, .v (.slice none 0 0)]), .int 1])]) [] (by decide) (by simp) rfl ⟨rfl, trivial⟩).trans ((TEnt.put1 0 (new_err _ _)).trans (TEnt.to ⟨rfl, trivial⟩))
          | exact (TEnt.fin (tm' := [(0, .tup [.agg (CC c00 ++ [.int 0, .v (.slice none 0 0)]), .int 3])]) [] (by decide) (by simp) rfl ⟨rfl, trivial⟩).trans ((TEnt.put1 0 (new_err _ _)).trans (TEnt.to ⟨rfl, trivial⟩))
      · (try simp only [decide_eq_true_eq, decide_eq_false_iff_not, beq_iff_eq, beq_eq_false_iff_ne, bne_iff_ne, bne_eq_false_iff_eq, ne_eq, Bool.not_eq_true', Bool.not_eq_false'] at hb)
        refine ro rfl rfl (OpOk.step (ok_move (.inl rfl))) ?_
        refine ro rfl rfl (OpOk.step (ok_len' rfl rfl ti_LLuint8 rfl (by first | exact ints_length _ _ | exact rowsA_length _ _ | exact Cms_len _ | exact mapLen _ | rfl))) ?_
        refine ro rfl rfl (OpOk.step (ok_move (.inl rfl))) ?_
        refine ro rfl rfl (OpOk.step (ok_load rfl ti_api_Conf rfl rfl)) ?_
        refine ro rfl rfl (ok_call rfl rfl rfl ((row_ok c).plain (by simp [renL, AV.ren, CC_take', CC_ren]) rfl)) ?_
        refine ro rfl rfl (OpOk.step (ok_rem64 rfl ti_int rfl rfl (by omega) (by omega))) ?_
        refine ro rfl rfl (OpOk.step (ok_binOp rfl ti_int rfl)) ?_
        refine ro rfl rfl (OpOk.step (ok_pick rfl rfl)) ?_
        refine ro_nil ?_
        refine keepK hK7 [1, 2, 3, 6, 34] (by dsimp) (by dsimp) ?_
        refine T.cond rfl (fun hc => ?_) (fun hc => ?_) -- cond 2
        · (try simp only [decide_eq_true_eq, decide_eq_false_iff_not, beq_iff_eq, beq_eq_false_iff_ne, bne_iff_ne, bne_eq_false_iff_eq, ne_eq, Bool.not_eq_true', Bool.not_eq_false'] at hc)
          refine T.seq fun K10 hK10 => ?_
          rw [if_pos (by omega)] at hE
          rw [newA_err hE (by omega)] at hQ
          refine T.region ?_ -- region 5
          refine ro rfl rfl (OpOk.step (ok_build rfl ti_stripe_Buf rfl)) ?_
          refine ro rfl rfl (OpOk.step (ok_store rfl ti_stripe_Buf (by decide) rfl rfl rfl rfl rfl (by first | exact Nat.le_of_ble_eq_true rfl | simp) (by first | exact .inl ⟨rfl, rfl⟩ | exact .inr rfl))) ?_
          refine ro rfl rfl (OpOk.step (ok_move (.inr rfl))) ?_
          refine ro_nil ?_
          refine keepK hK10 [6, 7] (by dsimp) (by dsimp) ?_
          refine T.ret (hQ _ _ _ rfl ?_).1 -- ret 4
          first
            | exact (TEnt.fin (tm' := [(0, .tup [.agg (CC c00 ++ [.int 0, .v (.slice none 0 0)]), .int (chkC c)])]) [] (by decide) (by simp) rfl ⟨rfl, trivial⟩).trans ((TEnt.put1 0 (new_err _ _)).trans (TEnt.to ⟨rfl, trivial⟩))
            | exact (TEnt.fin (tm' := [(0, .tup [.agg (CC c00 ++ [.int 0, .v (.slice none 0 0)]), .int 1])]) [] (by decide) (by simp) rfl ⟨rfl, trivial⟩).trans ((TEnt.put1 0 (new_err _ _)).trans (TEnt.to ⟨rfl, trivial⟩))
            | exact (TEnt.fin (tm' := [(0, .tup [.agg (CC c00 ++ [.int 0, .v (.slice none 0 0)]), .int 3])]) [] (by decide) (by simp) rfl ⟨rfl, trivial⟩).trans ((TEnt.put1 0 (new_err _ _)).trans (TEnt.to ⟨rfl, trivial⟩))
        · (try simp only [decide_eq_true_eq, decide_eq_false_iff_not, beq_iff_eq, beq_eq_false_iff_ne, bne_iff_ne, bne_eq_false_iff_eq, ne_eq, Bool.not_eq_true', Bool.not_eq_false'] at hc)
          refine T.skip ?_
          refine keepK hK6 [1, 2, 3, 6] (by dsimp) (by dsimp) ?_
          refine T.seq fun K11 hK11 => ?_
          have hgood : ¬ (w < 0 ∨ w > sizeC c ∨ (ls.length : Int) ≠ w % rowC c) := by omega
          rw [if_neg hgood] at hE
          refine T.region ?_ -- region 6
          refine ro rfl rfl (OpOk.step (ok_load rfl ti_api_Conf rfl rfl)) ?_
          refine ro rfl rfl (OpOk.step (ok_move (.inl rfl))) ?_
          refine ro rfl rfl (OpOk.step (((ok_build rfl ti_stripe_Buf rfl).eq (x' := .agg (CC c ++ [.int w, .v (.slice none 0 0)])) rfl rfl).tent ((TEnt.emptyAt 0 12 1 (by decide) rfl rfl).trans (TEnt.to (tm' := [(0, .agg (CC c ++ [.int w, .sl 2 0 0]))]) ⟨rfl, trivial⟩)))) ?_
          refine ro rfl rfl (OpOk.step (ok_alloc rfl ti_stripe_Buf rfl (by decide))) ?_
          refine ro rfl rfl (OpOk.step ((ok_store rfl ti_stripe_Buf (by decide) rfl rfl rfl rfl rfl (Nat.le_of_ble_eq_true rfl) (.inl ⟨rfl, rfl⟩)).eq (x' := .any) (H'' := [some (CB c), some ⟨13, true, [.agg (CC c00 ++ [.int 0, .v (.slice none 0 0)])]⟩, some ⟨1, true, []⟩, some ⟨13, true, [.agg (CC c ++ [.int w, .sl 2 0 0])]⟩]) rfl rfl)) ?_
          refine ro_nil ?_
          refine keepK hK11 [2, 3, 6, 9] (by dsimp) (by dsimp) ?_
          refine T.seq fun K12 hK12 => ?_
          refine T.seq fun K13 hK13 => ?_
          refine T.region ?_ -- region 7
          refine ro rfl rfl (OpOk.step (ok_move (.inl rfl))) ?_
          refine ro rfl rfl (OpOk.step (ok_len' rfl rfl ti_LLuint8 rfl (by first | exact ints_length _ _ | exact rowsA_length _ _ | exact Cms_len _ | exact mapLen _ | rfl))) ?_
          refine ro rfl rfl (OpOk.step (ok_move (.inl rfl))) ?_
          refine ro_nil ?_
          refine keepK hK13 [3, 6, 9, 39, 40, 41] (by dsimp) (by dsimp) ?_
          refine T.block ?_
          refine T.loopI (ι := Nat) (fun i => i ≤ ls.length ∧ ((ls.take i).all fun l => decide ((l.length : Int) = c.blk)) = true) (fun i => ls.length - i) (fun i => ([(3, .ref 0 0 0), (6, .ref 1 0 0), (9, .ref 3 0 0), (39, .fz 1 (rowsA .u8 ls)), (40, .int ls.length), (41, .int i)], [some (CB c), some ⟨13, true, [.agg (CC c00 ++ [.int 0, .v (.slice none 0 0)])]⟩, some ⟨1, true, rowsA .u8 (ls.take i)⟩, some ⟨13, true, [.agg (CC c ++ [.int w, .sl 2 0 (ls.take i).length])]⟩])) 0 ⟨Nat.zero_le _, rfl⟩ (TEnt.toH rfl ⟨rfl, rfl, rfl, rfl, rfl, rfl, trivial⟩) (fun i hi => ?_) -- loop 1
          obtain ⟨hil, hall⟩ := hi
          refine T.seq fun K14 hK14 => ?_
          refine T.region ?_ -- region 8
          refine ro rfl rfl (OpOk.step (ok_binOp rfl ti_int rfl)) ?_
          refine ro_nil ?_
          refine keepK hK14 [3, 6, 9, 39, 40, 41, 42] (by dsimp) (by dsimp) ?_
          refine T.seq fun K15 hK15 => ?_
          refine T.cond rfl (fun hc => ?_) (fun hc => ?_) -- cond 3
          · (try simp only [decide_eq_true_eq, decide_eq_false_iff_not, beq_iff_eq, beq_eq_false_iff_ne, bne_iff_ne, bne_eq_false_iff_eq, ne_eq, Bool.not_eq_true', Bool.not_eq_false'] at hc)
            obtain ⟨x, hx⟩ : ∃ x, ls[i]? = some x := ⟨_, List.getElem?_eq_getElem (by omega)⟩
            have htk := take_succ_get hx
            have hxl := hl x (List.mem_of_getElem? hx)
            have htl : (ls.take i).length ≤ 1000000 := by simp; omega
            generalize hT : ls.take i = U at htk hall htl ⊢
            refine T.skip ?_
            refine keepK hK15 [3, 6, 9, 39, 40, 41] (by dsimp) (by dsimp) ?_
            refine T.seq fun K16 hK16 => ?_
            refine T.block ?_
            refine T.seq fun K17 hK17 => ?_
            refine T.region ?_ -- region 9
            refine ro rfl rfl (OpOk.step (by exact ok_index_fz rfl ti_LLuint8 rfl ti_Luint8 rfl rfl rfl (by omega) (rowsA_get_of (by simpa using hx)) rfl)) ?_
            refine ro rfl rfl (OpOk.step (ok_load rfl ti_Luint8 rfl rfl)) ?_
            refine ro rfl rfl (OpOk.step (ok_move (.inr rfl))) ?_
            refine ro_nil ?_
            refine keepK hK17 [3, 6, 9, 11, 39, 40, 41] (by dsimp) (by dsimp) ?_
            refine T.seq fun K18 hK18 => ?_
            refine T.seq fun K19 hK19 => ?_
            refine T.region ?_ -- region 10
            refine ro rfl rfl (OpOk.step (ok_move (.inl rfl))) ?_
            refine ro rfl rfl (OpOk.step (ok_len' rfl rfl ti_Luint8 rfl (by first | exact ints_length _ _ | exact rowsA_length _ _ | exact Cms_len _ | exact mapLen _ | rfl))) ?_
            refine ro rfl rfl (OpOk.step (ok_fieldAddr rfl ti_api_Conf rfl rfl ti_int (by decide) rfl)) ?_
            refine ro rfl rfl (OpOk.step (ok_load rfl ti_int rfl rfl)) ?_
            refine ro rfl rfl (OpOk.step (ok_binOp rfl ti_int rfl)) ?_
            refine ro_nil ?_
            refine keepK hK19 [3, 6, 9, 11, 39, 40, 41, 49] (by dsimp) (by dsimp) ?_
            refine T.cond rfl (fun hc => ?_) (fun hc => ?_) -- cond 4
            · (try simp only [decide_eq_true_eq, decide_eq_false_iff_not, beq_iff_eq, beq_eq_false_iff_ne, bne_iff_ne, bne_eq_false_iff_eq, ne_eq, Bool.not_eq_true', Bool.not_eq_false'] at hc)
              rw [if_neg (all_bad hx hc)] at hE
              rw [newA_err hE (by omega)] at hQ
              refine T.seq fun K20 hK20 => ?_
              refine T.region ?_ -- region 11
              refine ro rfl rfl (OpOk.step (ok_build rfl ti_stripe_Buf rfl)) ?_
              refine ro rfl rfl (OpOk.step (ok_store rfl ti_stripe_Buf (by decide) rfl rfl rfl rfl rfl (by first | exact Nat.le_of_ble_eq_true rfl | simp) (by first | exact .inl ⟨rfl, rfl⟩ | exact .inr rfl))) ?_
              refine ro rfl rfl (OpOk.step (ok_move (.inr rfl))) ?_
              refine ro_nil ?_
              refine keepK hK20 [6, 7] (by dsimp) (by dsimp) ?_
              refine T.ret (hQ _ _ _ rfl ?_).1 -- ret 5
              first
                | exact (TEnt.fin (tm' := [(0, .tup [.agg (CC c00 ++ [.int 0, .v (.slice none 0 0)]), .int (chkC c)])]) [] (by decide) (by simp) rfl ⟨rfl, trivial⟩).trans ((TEnt.put1 0 (new_err _ _)).trans (TEnt.to ⟨rfl, trivial⟩))
                | exact (TEnt.fin (tm' := [(0, .tup [.agg (CC c00 ++ [.int 0, .v (.slice none 0 0)]), .int 1])]) [] (by decide) (by simp) rfl ⟨rfl, trivial⟩).trans ((TEnt.put1 0 (new_err _ _)).trans (TEnt.to ⟨rfl, trivial⟩))
                | exact (TEnt.fin (tm' := [(0, .tup [.agg (CC c00 ++ [.int 0, .v (.slice none 0 0)]), .int 3])]) [] (by decide) (by simp) rfl ⟨rfl, trivial⟩).trans ((TEnt.put1 0 (new_err _ _)).trans (TEnt.to ⟨rfl, trivial⟩))
            · (try simp only [decide_eq_true_eq, decide_eq_false_iff_not, beq_iff_eq, beq_eq_false_iff_ne, bne_iff_ne, bne_eq_false_iff_eq, ne_eq, Bool.not_eq_true', Bool.not_eq_false'] at hc)
              have hxb : (x.length : Int) = c.blk := by omega
              refine T.skip ?_
              refine keepK hK18 [3, 6, 9, 11, 39, 40, 41] (by dsimp) (by dsimp) ?_
              refine T.draw mixed (SH [7] (HeldL ([some (CB c), none, none, some ⟨13, true, [.agg (CC c ++ [.int w, .sl 2 0 U.length])]⟩]))) ?_ -- region 12
              refine any_take 0 rfl (by first | rfl | decide +kernel) rfl (by first | (simp [HeldL]; done) | (simp only [HeldL, List.map_cons, List.map_nil, List.cons_append, List.nil_append, List.set_cons_zero, List.set_cons_succ]; (repeat' first | trivial | rfl | constructor))) (fun H' hH => OpOk.step (ok_fieldAddr rfl ti_stripe_Buf rfl rfl ti_LLuint8 (by decide) rfl)) ?_
              refine any_take 1 rfl (by first | rfl | decide +kernel) rfl (by first | (simp [HeldL]; done) | (simp only [HeldL, List.map_cons, List.map_nil, List.cons_append, List.nil_append, List.set_cons_zero, List.set_cons_succ]; (repeat' first | trivial | rfl | constructor))) (fun H' hH => OpOk.step (ok_load rfl ti_LLuint8 (locA_held hH rfl) rfl)) ?_
              refine any_take 2 rfl (by first | rfl | decide +kernel) rfl (by first | (simp [HeldL]; done) | (simp only [HeldL, List.map_cons, List.map_nil, List.cons_append, List.nil_append, List.set_cons_zero, List.set_cons_succ]; (repeat' first | trivial | rfl | constructor))) (fun H' hH => OpOk.step (ok_move (.inl rfl))) ?_
              refine any_one 3 rfl (by first | rfl | decide +kernel) rfl rfl (ok_call rfl rfl rfl ((clone_frz x hxl).plain (by simp [renL, AV.ren, renL_ints]) (by simp [AV.ren, renL_ints]))) (.inr (by first | (simp [HeldL]; done) | (simp only [HeldL, List.map_cons, List.map_nil, List.cons_append, List.nil_append, List.set_cons_zero, List.set_cons_succ]; (repeat' first | trivial | rfl | constructor)))) ?_
              refine any_one 4 rfl (by first | rfl | decide +kernel) rfl rfl (OpOk.step (ok_buildSlice (n := 1) (ps := #[(0, .tmp 54)]) rfl ti_LLuint8 rfl ti_Luint8 (by decide) rfl rfl (by decide) rfl rfl rfl)) (.inr (by first | (simp [HeldL]; done) | (simp only [HeldL, List.map_cons, List.map_nil, List.cons_append, List.nil_append, List.set_cons_zero, List.set_cons_succ]; (repeat' first | trivial | rfl | constructor)))) ?_
              refine any_one 5 rfl (by first | rfl | decide +kernel) rfl rfl (OpOk.step ((ok_append_map (fun l => .fz 1 (ints .u8 l)) (xs := U) (ys := [x]) rfl ti_LLuint8 rfl ti_Luint8 (by decide) (by decide) rfl ti_LLuint8 (by simp) rfl rfl rfl rfl rfl rfl rfl rfl rfl (by show (_ + 1) * 24 ≤ _; omega)).eq (x' := .sl 5 0 (U ++ [x]).length) (H'' := [some (CB c), some ⟨13, true, [.agg (CC c00 ++ [.int 0, .v (.slice none 0 0)])]⟩, none, some ⟨13, true, [.agg (CC c ++ [.int w, .sl 2 0 U.length])]⟩, some ⟨1, true, rowsA .u8 [x]⟩, some ⟨1, true, rowsA .u8 (U ++ [x])⟩]) rfl rfl)) (.inr (by first | (simp [HeldL]; done) | (simp only [HeldL, List.map_cons, List.map_nil, List.cons_append, List.nil_append, List.set_cons_zero, List.set_cons_succ]; (repeat' first | trivial | rfl | constructor)))) ?_
              refine any_take 6 rfl (by first | rfl | decide +kernel) rfl (by first | (simp [HeldL]; done) | (simp only [HeldL, List.map_cons, List.map_nil, List.cons_append, List.nil_append, List.set_cons_zero, List.set_cons_succ]; (repeat' first | trivial | rfl | constructor))) (fun H' hH => OpOk.step (ok_fieldAddr rfl ti_stripe_Buf rfl rfl ti_LLuint8 (by decide) rfl)) ?_
              refine any_one 7 rfl (by first | rfl | decide +kernel) rfl rfl (OpOk.step ((ok_store rfl ti_LLuint8 (by decide) rfl rfl rfl rfl rfl (Nat.le_of_ble_eq_true rfl) (.inr rfl)).eq (x' := .any) (H'' := [some (CB c), some ⟨13, true, [.agg (CC c00 ++ [.int 0, .v (.slice none 0 0)])]⟩, none, some ⟨13, true, [.agg (CC c ++ [.int w, .sl 5 0 (U ++ [x]).length])]⟩, some ⟨1, true, rowsA .u8 [x]⟩, some ⟨1, true, rowsA .u8 (U ++ [x])⟩]) rfl rfl)) (.inl (by simp)) ?_
              refine any_done rfl ?_
              refine keepK hK16 [3, 6, 9, 39, 40, 41] (by dsimp) (by dsimp) ?_
              refine T.region ?_ -- region 13
              refine ro rfl rfl (OpOk.step (ok_add64 rfl ti_int rfl rfl (by omega) (by omega))) ?_
              refine ro rfl rfl (OpOk.step (ok_move (.inl rfl))) ?_
              refine ro_nil ?_
              exact ⟨i + 1, ⟨by omega, by rw [htk, List.all_append, hall]; simp [hxb]⟩, by omega, TEnt.fin [0, 1, 5, 3] (by decide) (by simp) (by rw [htk]; show normH [0, 1, 5, 3] [some (CB c), some ⟨13, true, [.agg (CC c00 ++ [.int 0, .v (.slice none 0 0)])]⟩, none, some ⟨13, true, [.agg (CC c ++ [.int w, .sl 5 0 (U ++ [x]).length])]⟩, some ⟨1, true, rowsA .u8 [x]⟩, some ⟨1, true, rowsA .u8 (U ++ [x])⟩] = _; simp only [normH, hget, List.map_cons, List.map_nil, Option.map_some, List.getElem?_cons_zero, List.getElem?_cons_succ, CB_ren]; simp only [Blk.ren, renL, AV.ren, BufN_ren, renL_rowsA]; rfl) ⟨rfl, rfl, rfl, by simp [AV.ren, renL_rowsA], rfl, rfl, trivial⟩⟩
          · (try simp only [decide_eq_true_eq, decide_eq_false_iff_not, beq_iff_eq, beq_eq_false_iff_ne, bne_iff_ne, bne_eq_false_iff_eq, ne_eq, Bool.not_eq_true', Bool.not_eq_false'] at hc)
            have hin : i = ls.length := by omega
            rw [hin, List.take_length] at hall
            rw [if_pos hall] at hE
            have hN : newA c w ls = .tup [.agg (BufC c w ls), .int 0] := by unfold newA; rw [hE, if_pos rfl]
            rw [hN] at hQ
            rw [hin, List.take_length]
            refine T.exit ?_
            refine keepK hK12 [6, 9] (by dsimp) (by dsimp) ?_
            refine T.seq fun K21 hK21 => ?_
            refine T.region ?_ -- region 14
            refine ro rfl rfl (OpOk.step (ok_load rfl ti_stripe_Buf rfl rfl)) ?_
            refine ro rfl rfl (OpOk.step (ok_store rfl ti_stripe_Buf (by decide) rfl rfl rfl rfl rfl (by first | exact Nat.le_of_ble_eq_true rfl | simp) (by first | exact .inl ⟨rfl, rfl⟩ | exact .inr rfl))) ?_
            refine ro rfl rfl (OpOk.step (ok_move (.inr rfl))) ?_
            refine ro_nil ?_
            refine keepK hK21 [6, 7] (by dsimp) (by dsimp) ?_
            refine T.ret (hQ _ _ _ rfl ?_).1 -- ret 6
            exact (TEnt.fin (tm' := [(0, .tup [.agg (CC c ++ [.int w, .sl 0 0 ls.length]), .int 0])]) (H' := [some ⟨1, true, rowsA .u8 ls⟩]) [2] (by decide) (by simp) (by show [some (Blk.ren _ ⟨1, true, rowsA .u8 ls⟩)] = _; simp [Blk.ren, renL_rowsA]) ⟨rfl, trivial⟩).trans ((TEnt.freeze 0 rfl).trans ((TEnt.put1 0 (Ent.tup' (EntL.cons (Ent.agg (EntL.append (l := CC c) (l' := CC c) (EntL.refl _) (EntL.cons (Ent.refl _) (EntL.cons (Ent.sl0 (b := ⟨1, false, rowsA .u8 ls⟩) rfl rfl (by simp)) EntL.nil)))) (EntL.refl _)))).trans (TEnt.fin [] (by decide) (by simp) rfl ⟨by show AV.ren _ (.tup [.agg (BufC c w ls), .int 0]) = _; simp [AV.ren, renL, BufC_ren], trivial⟩)))
end Go.Proofs.Ytknhemdpfdopaaa.AmF
