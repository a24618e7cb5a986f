/- Walks over the abstract machine: commands that wait, those that go on made one. -/
import Derived.Test.YtknhemdpfdopaaaAfQueue
import Derived.Test.YtknhemdpfdopaaaAm17
namespace Go.Proofs.Ytknhemdpfdopaaa.AmF
open Go Go.AM
set_option maxRecDepth 100000
set_option linter.unusedSimpArgs false
set_option linter.unusedVariables false
attribute [local simp] tkeep tget tput ev cav argsTM pickA normT putA splice AV.cells ints_length rowsA_length Cms_len
set_option maxHeartbeats 4000000 in
theorem rgoes_ok (c : Cf) (a b : Cm) (hla : a.d.length ≤ 1000000000) (hlb : b.d.length ≤ 1000000000) : CSpec Try.prog 25 [] [.agg (CC c), .agg (CmdC a), .agg (CmdC b)] [] (.b (decide (GoesC c a b))) := by
  refine CSpec.body Try.func25 rfl rfl rfl rfl rfl fun Q hQ => ?_
  refine T.seq fun K1 hK1 => ?_
  refine T.region ?_ -- region 0
  refine ro rfl rfl (OpOk.step (ok_box (n := 11) rfl rfl (by decide))) ?_
  refine ro rfl rfl (OpOk.step (ok_box (n := 6) rfl rfl (by decide))) ?_
  refine ro rfl rfl (OpOk.step (ok_box (n := 6) rfl rfl (by decide))) ?_
  refine ro rfl rfl (OpOk.step (ok_moveb (c := false) (.inr rfl) rfl)) ?_
  refine ro_nil ?_
  refine keepK hK1 [3, 4, 5] (by dsimp) (by dsimp) ?_
  refine T.seq fun K2 hK2 => ?_
  refine T.seq fun K3 hK3 => ?_
  refine T.region ?_ -- region 1
  refine ro rfl rfl (OpOk.step (ok_load rfl ti_api_Conf rfl rfl)) ?_
  refine ro rfl rfl (ok_call rfl rfl rfl ((rcheck_ok c).plain (by simp [renL, AV.ren, CC_take, CC_ren]) rfl)) ?_
  refine ro rfl rfl (OpOk.step (ok_binOp rfl ti_int rfl)) ?_
  refine ro_case rfl rfl (OpOk.step (ok_moveb (.inl rfl) rfl)) (fun hb => ?_) (fun hb => ?_)
  · (try simp only [decide_eq_true_eq, decide_eq_false_iff_not, beq_iff_eq, beq_eq_false_iff_ne, bne_iff_ne, bne_eq_false_iff_eq, ne_eq, Bool.not_eq_true', Bool.not_eq_false'] at hb)
    refine ro_skip rfl rfl ?_
    refine ro_skip rfl rfl ?_
    refine ro_skip rfl rfl ?_
    refine ro rfl rfl (OpOk.step (ok_pickb (t := true) (d := true) rfl rfl rfl)) ?_
    refine ro rfl rfl (OpOk.step (ok_moveb (c := true) (.inl rfl) rfl)) ?_
    refine ro_skip rfl rfl ?_
    refine ro_skip rfl rfl ?_
    refine ro_skip rfl rfl ?_
    refine ro rfl rfl (OpOk.step (ok_pickb (t := true) (d := true) rfl rfl rfl)) ?_
    refine ro rfl rfl (OpOk.step (ok_moveb (c := true) (.inl rfl) rfl)) ?_
    refine ro_skip rfl rfl ?_
    refine ro_skip rfl rfl ?_
    refine ro_skip rfl rfl ?_
    refine ro_skip rfl rfl ?_
    refine ro_skip rfl rfl ?_
    refine ro rfl rfl (OpOk.step (ok_pickb (t := true) (d := true) rfl rfl rfl)) ?_
    refine ro rfl rfl (OpOk.step (ok_moveb (c := true) (.inl rfl) rfl)) ?_
    refine ro_skip rfl rfl ?_
    refine ro_skip rfl rfl ?_
    refine ro rfl rfl (OpOk.step (ok_pickb (t := true) (d := true) rfl rfl rfl)) ?_
    refine ro_nil ?_
    refine keepK hK3 [3, 4, 5, 32] (by dsimp) (by dsimp) ?_
    refine T.cond_true rfl ?_
    refine T.seq fun K4 hK4 => ?_
    refine T.region ?_ -- region 2
    refine ro rfl rfl (OpOk.step (ok_moveb (c := false) (.inr rfl) rfl)) ?_
    refine ro_nil ?_
    refine keepK hK4 [6] (by dsimp) (by dsimp) ?_
    refine T.ret (hQ _ _ _ rfl ?_).1 -- ret 1
    first
      | (rw [decide_eq_false (by unfold GoesC WholeC; first | omega | (intro h; simp_all; done))]; exact TEnt.fin [] (by decide) (by simp) rfl ⟨rfl, trivial⟩)
      | (have e : decide (GoesC c a b) = (a.a + (a.d.length : Int) / c.blk == b.a) := (by
           rw [Bool.eq_iff_iff, decide_eq_true_eq, beq_iff_eq]
           unfold GoesC WholeC
           constructor
           · rintro ⟨_, _, _, _, _, _, _, _, _, _, h⟩
             omega
           · intro h
             exact ⟨hchk, by omega, by omega, by omega, by first | assumption | (simp_all; done), ⟨by omega, by omega⟩, ⟨by omega, by omega⟩, by omega, by omega, by omega, by omega⟩)
         rw [e]; exact TEnt.fin [] (by decide) (by simp) rfl ⟨rfl, trivial⟩)
  · (try simp only [decide_eq_true_eq, decide_eq_false_iff_not, beq_iff_eq, beq_eq_false_iff_ne, bne_iff_ne, bne_eq_false_iff_eq, ne_eq, Bool.not_eq_true', Bool.not_eq_false'] at hb)
    refine ro rfl rfl (OpOk.step (ok_fieldAddr rfl ti_api_Cmd rfl rfl ti_int (by decide) rfl)) ?_
    refine ro rfl rfl (OpOk.step (ok_load rfl ti_int rfl rfl)) ?_
    refine ro rfl rfl (OpOk.step (ok_binOp rfl ti_int rfl)) ?_
    refine ro rfl rfl (OpOk.step (ok_pick rfl rfl)) ?_
    refine ro_case rfl rfl (OpOk.step (ok_moveb (.inl rfl) rfl)) (fun hb => ?_) (fun hb => ?_)
    · (try simp only [decide_eq_true_eq, decide_eq_false_iff_not, beq_iff_eq, beq_eq_false_iff_ne, bne_iff_ne, bne_eq_false_iff_eq, ne_eq, Bool.not_eq_true', Bool.not_eq_false'] at hb)
      refine ro_skip rfl rfl ?_
      refine ro_skip rfl rfl ?_
      refine ro_skip rfl rfl ?_
      refine ro rfl rfl (OpOk.step (ok_pickb (t := true) (d := true) rfl rfl rfl)) ?_
      refine ro rfl rfl (OpOk.step (ok_moveb (c := true) (.inl rfl) rfl)) ?_
      refine ro_skip rfl rfl ?_
      refine ro_skip rfl rfl ?_
      refine ro_skip rfl rfl ?_
      refine ro_skip rfl rfl ?_
      refine ro_skip rfl rfl ?_
      refine ro rfl rfl (OpOk.step (ok_pickb (t := true) (d := true) rfl rfl rfl)) ?_
      refine ro rfl rfl (OpOk.step (ok_moveb (c := true) (.inl rfl) rfl)) ?_
      refine ro_skip rfl rfl ?_
      refine ro_skip rfl rfl ?_
      refine ro rfl rfl (OpOk.step (ok_pickb (t := true) (d := true) rfl rfl rfl)) ?_
      refine ro_nil ?_
      refine keepK hK3 [3, 4, 5, 32] (by dsimp) (by dsimp) ?_
      refine T.cond_true rfl ?_
      refine T.seq fun K5 hK5 => ?_
      refine T.region ?_ -- region 2
      refine ro rfl rfl (OpOk.step (ok_moveb (c := false) (.inr rfl) rfl)) ?_
      refine ro_nil ?_
      refine keepK hK5 [6] (by dsimp) (by dsimp) ?_
      refine T.ret (hQ _ _ _ rfl ?_).1 -- ret 2
      first
        | (rw [decide_eq_false (by unfold GoesC WholeC; first | omega | (intro h; simp_all; done))]; exact TEnt.fin [] (by decide) (by simp) rfl ⟨rfl, trivial⟩)
        | (have e : decide (GoesC c a b) = (a.a + (a.d.length : Int) / c.blk == b.a) := (by
             rw [Bool.eq_iff_iff, decide_eq_true_eq, beq_iff_eq]
             unfold GoesC WholeC
             constructor
             · rintro ⟨_, _, _, _, _, _, _, _, _, _, h⟩
               omega
             · intro h
               exact ⟨hchk, by omega, by omega, by omega, by first | assumption | (simp_all; done), ⟨by omega, by omega⟩, ⟨by omega, by omega⟩, by omega, by omega, by omega, by omega⟩)
           rw [e]; exact TEnt.fin [] (by decide) (by simp) rfl ⟨rfl, trivial⟩)
    · (try simp only [decide_eq_true_eq, decide_eq_false_iff_not, beq_iff_eq, beq_eq_false_iff_ne, bne_iff_ne, bne_eq_false_iff_eq, ne_eq, Bool.not_eq_true', Bool.not_eq_false'] at hb)
      refine ro rfl rfl (OpOk.step (ok_fieldAddr rfl ti_api_Cmd rfl rfl ti_int (by decide) rfl)) ?_
      refine ro rfl rfl (OpOk.step (ok_load rfl ti_int rfl rfl)) ?_
      refine ro rfl rfl (OpOk.step (ok_binOp rfl ti_int rfl)) ?_
      refine ro rfl rfl (OpOk.step (ok_pick rfl rfl)) ?_
      refine ro_case rfl rfl (OpOk.step (ok_moveb (.inl rfl) rfl)) (fun hb => ?_) (fun hb => ?_)
      · (try simp only [decide_eq_true_eq, decide_eq_false_iff_not, beq_iff_eq, beq_eq_false_iff_ne, bne_iff_ne, bne_eq_false_iff_eq, ne_eq, Bool.not_eq_true', Bool.not_eq_false'] at hb)
        refine ro_skip rfl rfl ?_
        refine ro_skip rfl rfl ?_
        refine ro_skip rfl rfl ?_
        refine ro_skip rfl rfl ?_
        refine ro_skip rfl rfl ?_
        refine ro rfl rfl (OpOk.step (ok_pickb (t := true) (d := true) rfl rfl rfl)) ?_
        refine ro rfl rfl (OpOk.step (ok_moveb (c := true) (.inl rfl) rfl)) ?_
        refine ro_skip rfl rfl ?_
        refine ro_skip rfl rfl ?_
        refine ro rfl rfl (OpOk.step (ok_pickb (t := true) (d := true) rfl rfl rfl)) ?_
        refine ro_nil ?_
        refine keepK hK3 [3, 4, 5, 32] (by dsimp) (by dsimp) ?_
        refine T.cond_true rfl ?_
        refine T.seq fun K6 hK6 => ?_
        refine T.region ?_ -- region 2
        refine ro rfl rfl (OpOk.step (ok_moveb (c := false) (.inr rfl) rfl)) ?_
        refine ro_nil ?_
        refine keepK hK6 [6] (by dsimp) (by dsimp) ?_
        refine T.ret (hQ _ _ _ rfl ?_).1 -- ret 3
        first
          | (rw [decide_eq_false (by unfold GoesC WholeC; first | omega | (intro h; simp_all; done))]; exact TEnt.fin [] (by decide) (by simp) rfl ⟨rfl, trivial⟩)
          | (have e : decide (GoesC c a b) = (a.a + (a.d.length : Int) / c.blk == b.a) := (by
               rw [Bool.eq_iff_iff, decide_eq_true_eq, beq_iff_eq]
               unfold GoesC WholeC
               constructor
               · rintro ⟨_, _, _, _, _, _, _, _, _, _, h⟩
                 omega
               · intro h
                 exact ⟨hchk, by omega, by omega, by omega, by first | assumption | (simp_all; done), ⟨by omega, by omega⟩, ⟨by omega, by omega⟩, by omega, by omega, by omega, by omega⟩)
             rw [e]; exact TEnt.fin [] (by decide) (by simp) rfl ⟨rfl, trivial⟩)
      · (try simp only [decide_eq_true_eq, decide_eq_false_iff_not, beq_iff_eq, beq_eq_false_iff_ne, bne_iff_ne, bne_eq_false_iff_eq, ne_eq, Bool.not_eq_true', Bool.not_eq_false'] at hb)
        refine ro rfl rfl (OpOk.step (ok_fieldAddr rfl ti_api_Cmd rfl rfl ti_int (by decide) rfl)) ?_
        refine ro rfl rfl (OpOk.step (ok_load rfl ti_int rfl rfl)) ?_
        refine ro rfl rfl (OpOk.step (ok_fieldAddr rfl ti_api_Cmd rfl rfl ti_int (by decide) rfl)) ?_
        refine ro rfl rfl (OpOk.step (ok_load rfl ti_int rfl rfl)) ?_
        refine ro rfl rfl (OpOk.step (ok_binOp rfl ti_int rfl)) ?_
        refine ro rfl rfl (OpOk.step (ok_pick rfl rfl)) ?_
        refine ro_case rfl rfl (OpOk.step (ok_moveb (.inl rfl) rfl)) (fun hb => ?_) (fun hb => ?_)
        · (try simp only [decide_eq_true_eq, decide_eq_false_iff_not, beq_iff_eq, beq_eq_false_iff_ne, bne_iff_ne, bne_eq_false_iff_eq, ne_eq, Bool.not_eq_true', Bool.not_eq_false'] at hb)
          refine ro_skip rfl rfl ?_
          refine ro_skip rfl rfl ?_
          refine ro rfl rfl (OpOk.step (ok_pickb (t := true) (d := true) rfl rfl rfl)) ?_
          refine ro_nil ?_
          refine keepK hK3 [3, 4, 5, 32] (by dsimp) (by dsimp) ?_
          refine T.cond_true rfl ?_
          refine T.seq fun K7 hK7 => ?_
          refine T.region ?_ -- region 2
          refine ro rfl rfl (OpOk.step (ok_moveb (c := false) (.inr rfl) rfl)) ?_
          refine ro_nil ?_
          refine keepK hK7 [6] (by dsimp) (by dsimp) ?_
          refine T.ret (hQ _ _ _ rfl ?_).1 -- ret 4
          first
            | (rw [decide_eq_false (by unfold GoesC WholeC; first | omega | (intro h; simp_all; done))]; exact TEnt.fin [] (by decide) (by simp) rfl ⟨rfl, trivial⟩)
            | (have e : decide (GoesC c a b) = (a.a + (a.d.length : Int) / c.blk == b.a) := (by
                 rw [Bool.eq_iff_iff, decide_eq_true_eq, beq_iff_eq]
                 unfold GoesC WholeC
                 constructor
                 · rintro ⟨_, _, _, _, _, _, _, _, _, _, h⟩
                   omega
                 · intro h
                   exact ⟨hchk, by omega, by omega, by omega, by first | assumption | (simp_all; done), ⟨by omega, by omega⟩, ⟨by omega, by omega⟩, by omega, by omega, by omega, by omega⟩)
               rw [e]; exact TEnt.fin [] (by decide) (by simp) rfl ⟨rfl, trivial⟩)
        · (try simp only [decide_eq_true_eq, decide_eq_false_iff_not, beq_iff_eq, beq_eq_false_iff_ne, bne_iff_ne, bne_eq_false_iff_eq, ne_eq, Bool.not_eq_true', Bool.not_eq_false'] at hb)
          refine ro rfl rfl (OpOk.step (ok_fieldAddr rfl ti_api_Cmd rfl rfl ti_bool (by decide) rfl)) ?_
          refine ro rfl rfl (OpOk.step (ok_load rfl ti_bool rfl rfl)) ?_
          refine ro rfl rfl (OpOk.step (ok_pick rfl rfl)) ?_
          refine ro_nil ?_
          refine keepK hK3 [3, 4, 5, 32] (by dsimp) (by dsimp) ?_
          refine T.cond rfl (fun hc => ?_) (fun hc => ?_) -- cond 1
          · (try simp only [decide_eq_true_eq, decide_eq_false_iff_not, beq_iff_eq, beq_eq_false_iff_ne, bne_iff_ne, bne_eq_false_iff_eq, ne_eq, Bool.not_eq_true', Bool.not_eq_false'] at hc)
            refine T.seq fun K8 hK8 => ?_
            refine T.region ?_ -- region 2
            refine ro rfl rfl (OpOk.step (ok_moveb (c := false) (.inr rfl) rfl)) ?_
            refine ro_nil ?_
            refine keepK hK8 [6] (by dsimp) (by dsimp) ?_
            refine T.ret (hQ _ _ _ rfl ?_).1 -- ret 5
            first
              | (rw [decide_eq_false (by unfold GoesC WholeC; first | omega | (intro h; simp_all; done))]; exact TEnt.fin [] (by decide) (by simp) rfl ⟨rfl, trivial⟩)
              | (have e : decide (GoesC c a b) = (a.a + (a.d.length : Int) / c.blk == b.a) := (by
                   rw [Bool.eq_iff_iff, decide_eq_true_eq, beq_iff_eq]
                   unfold GoesC WholeC
                   constructor
                   · rintro ⟨_, _, _, _, _, _, _, _, _, _, h⟩
                     omega
                   · intro h
                     exact ⟨hchk, by omega, by omega, by omega, by first | assumption | (simp_all; done), ⟨by omega, by omega⟩, ⟨by omega, by omega⟩, by omega, by omega, by omega, by omega⟩)
                 rw [e]; exact TEnt.fin [] (by decide) (by simp) rfl ⟨rfl, trivial⟩)
          · (try simp only [decide_eq_true_eq, decide_eq_false_iff_not, beq_iff_eq, beq_eq_false_iff_ne, bne_iff_ne, bne_eq_false_iff_eq, ne_eq, Bool.not_eq_true', Bool.not_eq_false'] at hc)
            refine T.skip ?_
            refine keepK hK2 [3, 4, 5] (by dsimp) (by dsimp) ?_
            refine T.seq fun K9 hK9 => ?_
            have hchk : chkC c = 0 := by first | omega | simp_all
            have hblk := chk_blk hchk
            refine T.drawH mixed [] ?_ -- region 3
            refine any_take 0 rfl (by first | rfl | decide +kernel) rfl (HeldL.refl _) (fun H' hH => OpOk.step (ok_fieldAddr rfl ti_api_Cmd rfl rfl ti_Luint8 (by decide) rfl)) ?_
            refine any_take 1 rfl (by first | rfl | decide +kernel) rfl (HeldL.refl _) (fun H' hH => OpOk.step (ok_load rfl ti_Luint8 (locA_held hH rfl) rfl)) ?_
            refine any_take 2 rfl (by first | rfl | decide +kernel) rfl (HeldL.refl _) (fun H' hH => OpOk.step (ok_len' rfl rfl ti_Luint8 rfl (by first | exact ints_length _ _ | exact rowsA_length _ _ | exact Cms_len _ | exact mapLen _ | rfl))) ?_
            refine any_take 3 rfl (by first | rfl | decide +kernel) rfl (HeldL.refl _) (fun H' hH => OpOk.step (ok_fieldAddr rfl ti_api_Cmd rfl rfl ti_Luint8 (by decide) rfl)) ?_
            refine any_take 4 rfl (by first | rfl | decide +kernel) rfl (HeldL.refl _) (fun H' hH => OpOk.step (ok_load rfl ti_Luint8 (locA_held hH rfl) rfl)) ?_
            refine any_take 5 rfl (by first | rfl | decide +kernel) rfl (HeldL.refl _) (fun H' hH => OpOk.step (ok_len' rfl rfl ti_Luint8 rfl (by first | exact ints_length _ _ | exact rowsA_length _ _ | exact Cms_len _ | exact mapLen _ | rfl))) ?_
            refine any_take 6 rfl (by first | rfl | decide +kernel) rfl (HeldL.refl _) (fun H' hH => OpOk.step (ok_move (.inr rfl))) ?_
            refine any_take 7 rfl (by first | rfl | decide +kernel) rfl (HeldL.refl _) (fun H' hH => OpOk.step (ok_move (.inr rfl))) ?_
            refine any_done rfl ?_
            refine keepK hK9 [3, 4, 5, 7, 8] (by dsimp) (by dsimp) ?_
            refine T.seq fun K10 hK10 => ?_
            refine T.seq fun K11 hK11 => ?_
            refine T.region ?_ -- region 4
            refine ro rfl rfl (OpOk.step (ok_move (.inl rfl))) ?_
            refine ro rfl rfl (OpOk.step (ok_binOp rfl ti_int rfl)) ?_
            refine ro_case rfl rfl (OpOk.step (ok_moveb (.inl rfl) rfl)) (fun hb => ?_) (fun hb => ?_)
            · (try simp only [decide_eq_true_eq, decide_eq_false_iff_not, beq_iff_eq, beq_eq_false_iff_ne, bne_iff_ne, bne_eq_false_iff_eq, ne_eq, Bool.not_eq_true', Bool.not_eq_false'] at hb)
              refine ro_skip rfl rfl ?_
              refine ro_skip rfl rfl ?_
              refine ro rfl rfl (OpOk.step (ok_pickb (t := true) (d := true) rfl rfl rfl)) ?_
              refine ro rfl rfl (OpOk.step (ok_moveb (c := true) (.inl rfl) rfl)) ?_
              refine ro_skip rfl rfl ?_
              refine ro_skip rfl rfl ?_
              refine ro_skip rfl rfl ?_
              refine ro_skip rfl rfl ?_
              refine ro_skip rfl rfl ?_
              refine ro rfl rfl (OpOk.step (ok_pickb (t := true) (d := true) rfl rfl rfl)) ?_
              refine ro rfl rfl (OpOk.step (ok_moveb (c := true) (.inl rfl) rfl)) ?_
              refine ro_skip rfl rfl ?_
              refine ro_skip rfl rfl ?_
              refine ro_skip rfl rfl ?_
              refine ro_skip rfl rfl ?_
              refine ro_skip rfl rfl ?_
              refine ro rfl rfl (OpOk.step (ok_pickb (t := true) (d := true) rfl rfl rfl)) ?_
              refine ro rfl rfl (OpOk.step (ok_moveb (c := true) (.inl rfl) rfl)) ?_
              refine ro_skip rfl rfl ?_
              refine ro_skip rfl rfl ?_
              refine ro_skip rfl rfl ?_
              refine ro_skip rfl rfl ?_
              refine ro rfl rfl (OpOk.step (ok_pickb (t := true) (d := true) rfl rfl rfl)) ?_
              refine ro rfl rfl (OpOk.step (ok_moveb (c := true) (.inl rfl) rfl)) ?_
              refine ro_skip rfl rfl ?_
              refine ro_skip rfl rfl ?_
              refine ro_skip rfl rfl ?_
              refine ro rfl rfl (OpOk.step (ok_pickb (t := true) (d := true) rfl rfl rfl)) ?_
              refine ro rfl rfl (OpOk.step (ok_moveb (c := true) (.inl rfl) rfl)) ?_
              refine ro_skip rfl rfl ?_
              refine ro_skip rfl rfl ?_
              refine ro_skip rfl rfl ?_
              refine ro rfl rfl (OpOk.step (ok_pickb (t := true) (d := true) rfl rfl rfl)) ?_
              refine ro_nil ?_
              refine keepK hK11 [3, 4, 5, 7, 74] (by dsimp) (by dsimp) ?_
              refine T.cond_true rfl ?_
              refine T.seq fun K12 hK12 => ?_
              refine T.region ?_ -- region 5
              refine ro rfl rfl (OpOk.step (ok_moveb (c := false) (.inr rfl) rfl)) ?_
              refine ro_nil ?_
              refine keepK hK12 [6] (by dsimp) (by dsimp) ?_
              refine T.ret (hQ _ _ _ rfl ?_).1 -- ret 6
              first
                | (rw [decide_eq_false (by unfold GoesC WholeC; first | omega | (intro h; simp_all; done))]; exact TEnt.fin [] (by decide) (by simp) rfl ⟨rfl, trivial⟩)
                | (have e : decide (GoesC c a b) = (a.a + (a.d.length : Int) / c.blk == b.a) := (by
                     rw [Bool.eq_iff_iff, decide_eq_true_eq, beq_iff_eq]
                     unfold GoesC WholeC
                     constructor
                     · rintro ⟨_, _, _, _, _, _, _, _, _, _, h⟩
                       omega
                     · intro h
                       exact ⟨hchk, by omega, by omega, by omega, by first | assumption | (simp_all; done), ⟨by omega, by omega⟩, ⟨by omega, by omega⟩, by omega, by omega, by omega, by omega⟩)
                   rw [e]; exact TEnt.fin [] (by decide) (by simp) rfl ⟨rfl, trivial⟩)
            · (try simp only [decide_eq_true_eq, decide_eq_false_iff_not, beq_iff_eq, beq_eq_false_iff_ne, bne_iff_ne, bne_eq_false_iff_eq, ne_eq, Bool.not_eq_true', Bool.not_eq_false'] at hb)
              refine ro rfl rfl (OpOk.step (ok_move (.inl rfl))) ?_
              refine ro rfl rfl (OpOk.step (ok_binOp rfl ti_int rfl)) ?_
              refine ro rfl rfl (OpOk.step (ok_pick rfl rfl)) ?_
              refine ro_case rfl rfl (OpOk.step (ok_moveb (.inl rfl) rfl)) (fun hb => ?_) (fun hb => ?_)
              · (try simp only [decide_eq_true_eq, decide_eq_false_iff_not, beq_iff_eq, beq_eq_false_iff_ne, bne_iff_ne, bne_eq_false_iff_eq, ne_eq, Bool.not_eq_true', Bool.not_eq_false'] at hb)
                refine ro_skip rfl rfl ?_
                refine ro_skip rfl rfl ?_
                refine ro_skip rfl rfl ?_
                refine ro_skip rfl rfl ?_
                refine ro_skip rfl rfl ?_
                refine ro rfl rfl (OpOk.step (ok_pickb (t := true) (d := true) rfl rfl rfl)) ?_
                refine ro rfl rfl (OpOk.step (ok_moveb (c := true) (.inl rfl) rfl)) ?_
                refine ro_skip rfl rfl ?_
                refine ro_skip rfl rfl ?_
                refine ro_skip rfl rfl ?_
                refine ro_skip rfl rfl ?_
                refine ro_skip rfl rfl ?_
                refine ro rfl rfl (OpOk.step (ok_pickb (t := true) (d := true) rfl rfl rfl)) ?_
                refine ro rfl rfl (OpOk.step (ok_moveb (c := true) (.inl rfl) rfl)) ?_
                refine ro_skip rfl rfl ?_
                refine ro_skip rfl rfl ?_
                refine ro_skip rfl rfl ?_
                refine ro_skip rfl rfl ?_
                refine ro rfl rfl (OpOk.step (ok_pickb (t := true) (d := true) rfl rfl rfl)) ?_
                refine ro rfl rfl (OpOk.step (ok_moveb (c := true) (.inl rfl) rfl)) ?_
                refine ro_skip rfl rfl ?_
                refine ro_skip rfl rfl ?_
                refine ro_skip rfl rfl ?_
                refine ro rfl rfl (OpOk.step (ok_pickb (t := true) (d := true) rfl rfl rfl)) ?_
                refine ro rfl rfl (OpOk.step (ok_moveb (c := true) (.inl rfl) rfl)) ?_
                refine ro_skip rfl rfl ?_
                refine ro_skip rfl rfl ?_
                refine ro_skip rfl rfl ?_
                refine ro rfl rfl (OpOk.step (ok_pickb (t := true) (d := true) rfl rfl rfl)) ?_
                refine ro_nil ?_
                refine keepK hK11 [3, 4, 5, 7, 74] (by dsimp) (by dsimp) ?_
                refine T.cond_true rfl ?_
                refine T.seq fun K13 hK13 => ?_
                refine T.region ?_ -- region 5
                refine ro rfl rfl (OpOk.step (ok_moveb (c := false) (.inr rfl) rfl)) ?_
                refine ro_nil ?_
                refine keepK hK13 [6] (by dsimp) (by dsimp) ?_
                refine T.ret (hQ _ _ _ rfl ?_).1 -- ret 7
                first
                  | (rw [decide_eq_false (by unfold GoesC WholeC; first | omega | (intro h; simp_all; done))]; exact TEnt.fin [] (by decide) (by simp) rfl ⟨rfl, trivial⟩)
                  | (have e : decide (GoesC c a b) = (a.a + (a.d.length : Int) / c.blk == b.a) := (by
                       rw [Bool.eq_iff_iff, decide_eq_true_eq, beq_iff_eq]
                       unfold GoesC WholeC
                       constructor
                       · rintro ⟨_, _, _, _, _, _, _, _, _, _, h⟩
                         omega
                       · intro h
                         exact ⟨hchk, by omega, by omega, by omega, by first | assumption | (simp_all; done), ⟨by omega, by omega⟩, ⟨by omega, by omega⟩, by omega, by omega, by omega, by omega⟩)
                     rw [e]; exact TEnt.fin [] (by decide) (by simp) rfl ⟨rfl, trivial⟩)
              · (try simp only [decide_eq_true_eq, decide_eq_false_iff_not, beq_iff_eq, beq_eq_false_iff_ne, bne_iff_ne, bne_eq_false_iff_eq, ne_eq, Bool.not_eq_true', Bool.not_eq_false'] at hb)
                refine ro rfl rfl (OpOk.step (ok_move (.inl rfl))) ?_
                refine ro rfl rfl (OpOk.step (ok_fieldAddr rfl ti_api_Conf rfl rfl ti_int (by decide) rfl)) ?_
                refine ro rfl rfl (OpOk.step (ok_load rfl ti_int rfl rfl)) ?_
                refine ro rfl rfl (OpOk.step (ok_rem64 rfl ti_int rfl rfl (by omega) (by omega))) ?_
                refine ro rfl rfl (OpOk.step (ok_binOp rfl ti_int rfl)) ?_
                refine ro rfl rfl (OpOk.step (ok_pick rfl rfl)) ?_
                refine ro_case rfl rfl (OpOk.step (ok_moveb (.inl rfl) rfl)) (fun hb => ?_) (fun hb => ?_)
                · (try simp only [decide_eq_true_eq, decide_eq_false_iff_not, beq_iff_eq, beq_eq_false_iff_ne, bne_iff_ne, bne_eq_false_iff_eq, ne_eq, Bool.not_eq_true', Bool.not_eq_false'] at hb)
                  refine ro_skip rfl rfl ?_
                  refine ro_skip rfl rfl ?_
                  refine ro_skip rfl rfl ?_
                  refine ro_skip rfl rfl ?_
                  refine ro_skip rfl rfl ?_
                  refine ro rfl rfl (OpOk.step (ok_pickb (t := true) (d := true) rfl rfl rfl)) ?_
                  refine ro rfl rfl (OpOk.step (ok_moveb (c := true) (.inl rfl) rfl)) ?_
                  refine ro_skip rfl rfl ?_
                  refine ro_skip rfl rfl ?_
                  refine ro_skip rfl rfl ?_
                  refine ro_skip rfl rfl ?_
                  refine ro rfl rfl (OpOk.step (ok_pickb (t := true) (d := true) rfl rfl rfl)) ?_
                  refine ro rfl rfl (OpOk.step (ok_moveb (c := true) (.inl rfl) rfl)) ?_
                  refine ro_skip rfl rfl ?_
                  refine ro_skip rfl rfl ?_
                  refine ro_skip rfl rfl ?_
                  refine ro rfl rfl (OpOk.step (ok_pickb (t := true) (d := true) rfl rfl rfl)) ?_
                  refine ro rfl rfl (OpOk.step (ok_moveb (c := true) (.inl rfl) rfl)) ?_
                  refine ro_skip rfl rfl ?_
                  refine ro_skip rfl rfl ?_
                  refine ro_skip rfl rfl ?_
                  refine ro rfl rfl (OpOk.step (ok_pickb (t := true) (d := true) rfl rfl rfl)) ?_
                  refine ro_nil ?_
                  refine keepK hK11 [3, 4, 5, 7, 74] (by dsimp) (by dsimp) ?_
                  refine T.cond_true rfl ?_
                  refine T.seq fun K14 hK14 => ?_
                  refine T.region ?_ -- region 5
                  refine ro rfl rfl (OpOk.step (ok_moveb (c := false) (.inr rfl) rfl)) ?_
                  refine ro_nil ?_
                  refine keepK hK14 [6] (by dsimp) (by dsimp) ?_
                  refine T.ret (hQ _ _ _ rfl ?_).1 -- ret 8
                  first
                    | (rw [decide_eq_false (by unfold GoesC WholeC; first | omega | (intro h; simp_all; done))]; exact TEnt.fin [] (by decide) (by simp) rfl ⟨rfl, trivial⟩)
                    | (have e : decide (GoesC c a b) = (a.a + (a.d.length : Int) / c.blk == b.a) := (by
                         rw [Bool.eq_iff_iff, decide_eq_true_eq, beq_iff_eq]
                         unfold GoesC WholeC
                         constructor
                         · rintro ⟨_, _, _, _, _, _, _, _, _, _, h⟩
                           omega
                         · intro h
                           exact ⟨hchk, by omega, by omega, by omega, by first | assumption | (simp_all; done), ⟨by omega, by omega⟩, ⟨by omega, by omega⟩, by omega, by omega, by omega, by omega⟩)
                       rw [e]; exact TEnt.fin [] (by decide) (by simp) rfl ⟨rfl, trivial⟩)
                · (try simp only [decide_eq_true_eq, decide_eq_false_iff_not, beq_iff_eq, beq_eq_false_iff_ne, bne_iff_ne, bne_eq_false_iff_eq, ne_eq, Bool.not_eq_true', Bool.not_eq_false'] at hb)
                  refine ro rfl rfl (OpOk.step (ok_move (.inl rfl))) ?_
                  refine ro rfl rfl (OpOk.step (ok_fieldAddr rfl ti_api_Conf rfl rfl ti_int (by decide) rfl)) ?_
                  refine ro rfl rfl (OpOk.step (ok_load rfl ti_int rfl rfl)) ?_
                  refine ro rfl rfl (OpOk.step (ok_rem64 rfl ti_int rfl rfl (by omega) (by omega))) ?_
                  refine ro rfl rfl (OpOk.step (ok_binOp rfl ti_int rfl)) ?_
                  refine ro rfl rfl (OpOk.step (ok_pick rfl rfl)) ?_
                  refine ro_case rfl rfl (OpOk.step (ok_moveb (.inl rfl) rfl)) (fun hb => ?_) (fun hb => ?_)
                  · (try simp only [decide_eq_true_eq, decide_eq_false_iff_not, beq_iff_eq, beq_eq_false_iff_ne, bne_iff_ne, bne_eq_false_iff_eq, ne_eq, Bool.not_eq_true', Bool.not_eq_false'] at hb)
                    refine ro_skip rfl rfl ?_
                    refine ro_skip rfl rfl ?_
                    refine ro_skip rfl rfl ?_
                    refine ro_skip rfl rfl ?_
                    refine ro rfl rfl (OpOk.step (ok_pickb (t := true) (d := true) rfl rfl rfl)) ?_
                    refine ro rfl rfl (OpOk.step (ok_moveb (c := true) (.inl rfl) rfl)) ?_
                    refine ro_skip rfl rfl ?_
                    refine ro_skip rfl rfl ?_
                    refine ro_skip rfl rfl ?_
                    refine ro rfl rfl (OpOk.step (ok_pickb (t := true) (d := true) rfl rfl rfl)) ?_
                    refine ro rfl rfl (OpOk.step (ok_moveb (c := true) (.inl rfl) rfl)) ?_
                    refine ro_skip rfl rfl ?_
                    refine ro_skip rfl rfl ?_
                    refine ro_skip rfl rfl ?_
                    refine ro rfl rfl (OpOk.step (ok_pickb (t := true) (d := true) rfl rfl rfl)) ?_
                    refine ro_nil ?_
                    refine keepK hK11 [3, 4, 5, 7, 74] (by dsimp) (by dsimp) ?_
                    refine T.cond_true rfl ?_
                    refine T.seq fun K15 hK15 => ?_
                    refine T.region ?_ -- region 5
                    refine ro rfl rfl (OpOk.step (ok_moveb (c := false) (.inr rfl) rfl)) ?_
                    refine ro_nil ?_
                    refine keepK hK15 [6] (by dsimp) (by dsimp) ?_
                    refine T.ret (hQ _ _ _ rfl ?_).1 -- ret 9
                    first
                      | (rw [decide_eq_false (by unfold GoesC WholeC; first | omega | (intro h; simp_all; done))]; exact TEnt.fin [] (by decide) (by simp) rfl ⟨rfl, trivial⟩)
                      | (have e : decide (GoesC c a b) = (a.a + (a.d.length : Int) / c.blk == b.a) := (by
                           rw [Bool.eq_iff_iff, decide_eq_true_eq, beq_iff_eq]
                           unfold GoesC WholeC
                           constructor
                           · rintro ⟨_, _, _, _, _, _, _, _, _, _, h⟩
                             omega
                           · intro h
                             exact ⟨hchk, by omega, by omega, by omega, by first | assumption | (simp_all; done), ⟨by omega, by omega⟩, ⟨by omega, by omega⟩, by omega, by omega, by omega, by omega⟩)
                         rw [e]; exact TEnt.fin [] (by decide) (by simp) rfl ⟨rfl, trivial⟩)
                  · (try simp only [decide_eq_true_eq, decide_eq_false_iff_not, beq_iff_eq, beq_eq_false_iff_ne, bne_iff_ne, bne_eq_false_iff_eq, ne_eq, Bool.not_eq_true', Bool.not_eq_false'] at hb)
                    refine ro rfl rfl (OpOk.step (ok_move (.inl rfl))) ?_
                    refine ro rfl rfl (OpOk.step (ok_move (.inl rfl))) ?_
                    refine ro rfl rfl (OpOk.step (ok_add64 rfl ti_int rfl rfl (by omega) (by omega))) ?_
                    refine ro rfl rfl (OpOk.step (ok_binOp rfl ti_int rfl)) ?_
                    refine ro rfl rfl (OpOk.step (ok_pick rfl rfl)) ?_
                    refine ro_case rfl rfl (OpOk.step (ok_moveb (.inl rfl) rfl)) (fun hb => ?_) (fun hb => ?_)
                    · (try simp only [decide_eq_true_eq, decide_eq_false_iff_not, beq_iff_eq, beq_eq_false_iff_ne, bne_iff_ne, bne_eq_false_iff_eq, ne_eq, Bool.not_eq_true', Bool.not_eq_false'] at hb)
                      refine ro_skip rfl rfl ?_
                      refine ro_skip rfl rfl ?_
                      refine ro_skip rfl rfl ?_
                      refine ro rfl rfl (OpOk.step (ok_pickb (t := true) (d := true) rfl rfl rfl)) ?_
                      refine ro rfl rfl (OpOk.step (ok_moveb (c := true) (.inl rfl) rfl)) ?_
                      refine ro_skip rfl rfl ?_
                      refine ro_skip rfl rfl ?_
                      refine ro_skip rfl rfl ?_
                      refine ro rfl rfl (OpOk.step (ok_pickb (t := true) (d := true) rfl rfl rfl)) ?_
                      refine ro_nil ?_
                      refine keepK hK11 [3, 4, 5, 7, 74] (by dsimp) (by dsimp) ?_
                      refine T.cond_true rfl ?_
                      refine T.seq fun K16 hK16 => ?_
                      refine T.region ?_ -- region 5
                      refine ro rfl rfl (OpOk.step (ok_moveb (c := false) (.inr rfl) rfl)) ?_
                      refine ro_nil ?_
                      refine keepK hK16 [6] (by dsimp) (by dsimp) ?_
                      refine T.ret (hQ _ _ _ rfl ?_).1 -- ret 10
                      first
                        | (rw [decide_eq_false (by unfold GoesC WholeC; first | omega | (intro h; simp_all; done))]; exact TEnt.fin [] (by decide) (by simp) rfl ⟨rfl, trivial⟩)
                        | (have e : decide (GoesC c a b) = (a.a + (a.d.length : Int) / c.blk == b.a) := (by
                             rw [Bool.eq_iff_iff, decide_eq_true_eq, beq_iff_eq]
                             unfold GoesC WholeC
                             constructor
                             · rintro ⟨_, _, _, _, _, _, _, _, _, _, h⟩
                               omega
                             · intro h
                               exact ⟨hchk, by omega, by omega, by omega, by first | assumption | (simp_all; done), ⟨by omega, by omega⟩, ⟨by omega, by omega⟩, by omega, by omega, by omega, by omega⟩)
                           rw [e]; exact TEnt.fin [] (by decide) (by simp) rfl ⟨rfl, trivial⟩)
                    · (try simp only [decide_eq_true_eq, decide_eq_false_iff_not, beq_iff_eq, beq_eq_false_iff_ne, bne_iff_ne, bne_eq_false_iff_eq, ne_eq, Bool.not_eq_true', Bool.not_eq_false'] at hb)
                      refine ro rfl rfl (OpOk.step (ok_fieldAddr rfl ti_api_Cmd rfl rfl ti_int (by decide) rfl)) ?_
                      refine ro rfl rfl (OpOk.step (ok_load rfl ti_int rfl rfl)) ?_
                      refine ro rfl rfl (OpOk.step (ok_binOp rfl ti_int rfl)) ?_
                      refine ro rfl rfl (OpOk.step (ok_pick rfl rfl)) ?_
                      refine ro_case rfl rfl (OpOk.step (ok_moveb (.inl rfl) rfl)) (fun hb => ?_) (fun hb => ?_)
                      · (try simp only [decide_eq_true_eq, decide_eq_false_iff_not, beq_iff_eq, beq_eq_false_iff_ne, bne_iff_ne, bne_eq_false_iff_eq, ne_eq, Bool.not_eq_true', Bool.not_eq_false'] at hb)
                        refine ro_skip rfl rfl ?_
                        refine ro_skip rfl rfl ?_
                        refine ro_skip rfl rfl ?_
                        refine ro rfl rfl (OpOk.step (ok_pickb (t := true) (d := true) rfl rfl rfl)) ?_
                        refine ro_nil ?_
                        refine keepK hK11 [3, 4, 5, 7, 74] (by dsimp) (by dsimp) ?_
                        refine T.cond_true rfl ?_
                        refine T.seq fun K17 hK17 => ?_
                        refine T.region ?_ -- region 5
                        refine ro rfl rfl (OpOk.step (ok_moveb (c := false) (.inr rfl) rfl)) ?_
                        refine ro_nil ?_
                        refine keepK hK17 [6] (by dsimp) (by dsimp) ?_
                        refine T.ret (hQ _ _ _ rfl ?_).1 -- ret 11
                        first
                          | (rw [decide_eq_false (by unfold GoesC WholeC; first | omega | (intro h; simp_all; done))]; exact TEnt.fin [] (by decide) (by simp) rfl ⟨rfl, trivial⟩)
                          | (have e : decide (GoesC c a b) = (a.a + (a.d.length : Int) / c.blk == b.a) := (by
                               rw [Bool.eq_iff_iff, decide_eq_true_eq, beq_iff_eq]
                               unfold GoesC WholeC
                               constructor
                               · rintro ⟨_, _, _, _, _, _, _, _, _, _, h⟩
                                 omega
                               · intro h
                                 exact ⟨hchk, by omega, by omega, by omega, by first | assumption | (simp_all; done), ⟨by omega, by omega⟩, ⟨by omega, by omega⟩, by omega, by omega, by omega, by omega⟩)
                             rw [e]; exact TEnt.fin [] (by decide) (by simp) rfl ⟨rfl, trivial⟩)
                      · (try simp only [decide_eq_true_eq, decide_eq_false_iff_not, beq_iff_eq, beq_eq_false_iff_ne, bne_iff_ne, bne_eq_false_iff_eq, ne_eq, Bool.not_eq_true', Bool.not_eq_false'] at hb)
                        refine ro rfl rfl (OpOk.step (ok_fieldAddr rfl ti_api_Cmd rfl rfl ti_int (by decide) rfl)) ?_
                        refine ro rfl rfl (OpOk.step (ok_load rfl ti_int rfl rfl)) ?_
                        refine ro rfl rfl (OpOk.step (ok_binOp rfl ti_int rfl)) ?_
                        refine ro rfl rfl (OpOk.step (ok_pick rfl rfl)) ?_
                        refine ro_nil ?_
                        refine keepK hK11 [3, 4, 5, 7, 74] (by dsimp) (by dsimp) ?_
                        refine T.cond rfl (fun hc => ?_) (fun hc => ?_) -- cond 2
                        · (try simp only [decide_eq_true_eq, decide_eq_false_iff_not, beq_iff_eq, beq_eq_false_iff_ne, bne_iff_ne, bne_eq_false_iff_eq, ne_eq, Bool.not_eq_true', Bool.not_eq_false'] at hc)
                          refine T.seq fun K18 hK18 => ?_
                          refine T.region ?_ -- region 5
                          refine ro rfl rfl (OpOk.step (ok_moveb (c := false) (.inr rfl) rfl)) ?_
                          refine ro_nil ?_
                          refine keepK hK18 [6] (by dsimp) (by dsimp) ?_
                          refine T.ret (hQ _ _ _ rfl ?_).1 -- ret 12
                          first
                            | (rw [decide_eq_false (by unfold GoesC WholeC; first | omega | (intro h; simp_all; done))]; exact TEnt.fin [] (by decide) (by simp) rfl ⟨rfl, trivial⟩)
                            | (have e : decide (GoesC c a b) = (a.a + (a.d.length : Int) / c.blk == b.a) := (by
                                 rw [Bool.eq_iff_iff, decide_eq_true_eq, beq_iff_eq]
                                 unfold GoesC WholeC
                                 constructor
                                 · rintro ⟨_, _, _, _, _, _, _, _, _, _, h⟩
                                   omega
                                 · intro h
                                   exact ⟨hchk, by omega, by omega, by omega, by first | assumption | (simp_all; done), ⟨by omega, by omega⟩, ⟨by omega, by omega⟩, by omega, by omega, by omega, by omega⟩)
                               rw [e]; exact TEnt.fin [] (by decide) (by simp) rfl ⟨rfl, trivial⟩)
                        · (try simp only [decide_eq_true_eq, decide_eq_false_iff_not, beq_iff_eq, beq_eq_false_iff_ne, bne_iff_ne, bne_eq_false_iff_eq, ne_eq, Bool.not_eq_true', Bool.not_eq_false'] at hc)
                          refine T.skip ?_
                          refine keepK hK10 [3, 4, 5, 7] (by dsimp) (by dsimp) ?_
                          refine T.seq fun K19 hK19 => ?_
                          have hdiv : 0 ≤ (a.d.length : Int) / c.blk ∧ (a.d.length : Int) / c.blk ≤ a.d.length := ⟨Int.ediv_nonneg (by omega) (by omega), Int.ediv_le_self _ (by omega)⟩
                          have hmod1 := Int.emod_nonneg (a.d.length : Int) (show c.blk ≠ 0 by omega)
                          have hmod2 := Int.emod_nonneg (b.d.length : Int) (show c.blk ≠ 0 by omega)
                          refine T.drawH mixed [] ?_ -- region 6
                          refine any_take 0 rfl (by first | rfl | decide +kernel) rfl (HeldL.refl _) (fun H' hH => OpOk.step (ok_fieldAddr rfl ti_api_Cmd rfl rfl ti_int (by decide) rfl)) ?_
                          refine any_take 1 rfl (by first | rfl | decide +kernel) rfl (HeldL.refl _) (fun H' hH => OpOk.step (ok_load rfl ti_int (locA_held hH rfl) rfl)) ?_
                          refine any_take 2 rfl (by first | rfl | decide +kernel) rfl (HeldL.refl _) (fun H' hH => OpOk.step (ok_move (.inl rfl))) ?_
                          refine any_take 3 rfl (by first | rfl | decide +kernel) rfl (HeldL.refl _) (fun H' hH => OpOk.step (ok_fieldAddr rfl ti_api_Conf rfl rfl ti_int (by decide) rfl)) ?_
                          refine any_take 4 rfl (by first | rfl | decide +kernel) rfl (HeldL.refl _) (fun H' hH => OpOk.step (ok_load rfl ti_int (locA_held hH rfl) rfl)) ?_
                          refine any_take 5 rfl (by first | rfl | decide +kernel) rfl (HeldL.refl _) (fun H' hH => OpOk.step (ok_quo64 rfl ti_int rfl rfl (by omega) (by omega) (by omega))) ?_
                          refine any_take 6 rfl (by first | rfl | decide +kernel) rfl (HeldL.refl _) (fun H' hH => OpOk.step (ok_add64 rfl ti_int rfl rfl (by omega) (by omega))) ?_
                          refine any_take 7 rfl (by first | rfl | decide +kernel) rfl (HeldL.refl _) (fun H' hH => OpOk.step (ok_fieldAddr rfl ti_api_Cmd rfl rfl ti_int (by decide) rfl)) ?_
                          refine any_take 8 rfl (by first | rfl | decide +kernel) rfl (HeldL.refl _) (fun H' hH => OpOk.step (ok_load rfl ti_int (locA_held hH rfl) rfl)) ?_
                          refine any_take 9 rfl (by first | rfl | decide +kernel) rfl (HeldL.refl _) (fun H' hH => OpOk.step (ok_binOp rfl ti_int rfl)) ?_
                          refine any_take 10 rfl (by first | rfl | decide +kernel) rfl (HeldL.refl _) (fun H' hH => OpOk.step (ok_move (.inr rfl))) ?_
                          refine any_done rfl ?_
                          refine keepK hK19 [6] (by dsimp) (by dsimp) ?_
                          refine T.ret (hQ _ _ _ rfl ?_).1 -- ret 13
                          first
                            | (rw [decide_eq_false (by unfold GoesC WholeC; first | omega | (intro h; simp_all; done))]; exact TEnt.fin [] (by decide) (by simp) rfl ⟨rfl, trivial⟩)
                            | (have e : decide (GoesC c a b) = (a.a + (a.d.length : Int) / c.blk == b.a) := (by
                                 rw [Bool.eq_iff_iff, decide_eq_true_eq, beq_iff_eq]
                                 unfold GoesC WholeC
                                 constructor
                                 · rintro ⟨_, _, _, _, _, _, _, _, _, _, h⟩
                                   omega
                                 · intro h
                                   exact ⟨hchk, by omega, by omega, by omega, by first | assumption | (simp_all; done), ⟨by omega, by omega⟩, ⟨by omega, by omega⟩, by omega, by omega, by omega, by omega⟩)
                               rw [e]; exact TEnt.fin [] (by decide) (by simp) rfl ⟨rfl, trivial⟩)
theorem goes1_ok (c : Cf) (a b : Cm) (hla : a.d.length ≤ 140737488355328) (hlb : b.d.length ≤ 140737488355328) : CSpec Try.prog 68 [CB c] [.agg (CmdC a), .agg (CmdC b), .ref 0 0 0] [some (CB c)] (.b (decide (GoesC c a b))) := by
  refine CSpec.body Try.func68 rfl rfl rfl rfl rfl fun Q hQ => ?_
  refine T.seq fun K1 hK1 => ?_
  refine T.region ?_ -- region 0
  refine ro rfl rfl (OpOk.step (ok_box (n := 6) rfl rfl (by decide))) ?_
  refine ro rfl rfl (OpOk.step (ok_box (n := 6) rfl rfl (by decide))) ?_
  refine ro rfl rfl (OpOk.step (ok_moveb (c := false) (.inr rfl) rfl)) ?_
  refine ro_nil ?_
  refine keepK hK1 [2, 3, 4] (by dsimp) (by dsimp) ?_
  refine T.seq fun K2 hK2 => ?_
  refine T.region ?_ -- region 1
  refine ro rfl rfl (OpOk.step (ok_load rfl ti_api_Conf rfl rfl)) ?_
  refine ro rfl rfl (OpOk.step (ok_load rfl ti_api_Cmd rfl rfl)) ?_
  refine ro rfl rfl (OpOk.step (ok_load rfl ti_api_Cmd rfl rfl)) ?_
  refine ro rfl rfl (ok_call rfl rfl rfl ((qgoes_ok c a b hla hlb).plain (by simp [renL, AV.ren, CC_take, Cmd_take, CC_ren, CmdC_ren]) rfl)) ?_
  refine ro rfl rfl (OpOk.step (ok_move (.inr rfl))) ?_
  refine ro_nil ?_
  refine keepK hK2 [5] (by dsimp) (by dsimp) ?_
  refine T.ret (hQ _ _ _ rfl ?_).1 -- ret 1
  exact TEnt.fin [0] (by decide) (by simp) (by simp [normH, hget, CB_ren]) ⟨rfl, trivial⟩
theorem both_ok (a b : Cm) (hla : a.d.length ≤ 10000000) (hlb : b.d.length ≤ 10000000) : CSpec Try.prog 69 [] [.agg (CmdC a), .agg (CmdC b)] [] (.agg (CmdC (bothC a b))) := by
  refine CSpec.body Try.func69 rfl rfl rfl rfl rfl fun Q hQ => ?_
  refine T.seq fun K1 hK1 => ?_
  refine T.region ?_ -- region 0
  refine ro rfl rfl (OpOk.step (ok_box (n := 6) rfl rfl (by decide))) ?_
  refine ro rfl rfl (OpOk.step (ok_box (n := 6) rfl rfl (by decide))) ?_
  refine ro rfl rfl (OpOk.step (ok_alloc rfl ti_api_Cmd rfl (by decide))) ?_
  refine ro_nil ?_
  refine keepK hK1 [2, 3, 4] (by dsimp) (by dsimp) ?_
  refine T.seq fun K2 hK2 => ?_
  refine T.draw2 mixed [9, 10, 11] [6, 7] ([none, some ⟨6, true, [.agg [.int b.k, .int b.z, .int b.a, .int b.n, .fz 1 (ints .u8 b.d), .b b.f]]⟩]) ?_ -- region 1
  refine any_early 6 rfl (by first | rfl | decide +kernel) rfl rfl (by first | (simp [HeldL]; done) | (simp only [HeldL, List.map_cons, List.map_nil, List.cons_append, List.nil_append, List.set_cons_zero, List.set_cons_succ]; (repeat' first | trivial | rfl | constructor))) (fun H' hH => OpOk.step (ok_fieldAddr rfl ti_api_Cmd rfl rfl ti_bool (by decide) rfl)) ?_
  refine any_early 7 rfl (by first | rfl | decide +kernel) rfl rfl (by first | (simp [HeldL]; done) | (simp only [HeldL, List.map_cons, List.map_nil, List.cons_append, List.nil_append, List.set_cons_zero, List.set_cons_succ]; (repeat' first | trivial | rfl | constructor))) (fun H' hH => OpOk.step (ok_load rfl ti_bool (locA_held hH rfl) rfl)) ?_
  refine any_take2 0 rfl (by first | rfl | decide +kernel) rfl rfl (by first | (simp [HeldL]; done) | (simp only [HeldL, List.map_cons, List.map_nil, List.cons_append, List.nil_append, List.set_cons_zero, List.set_cons_succ]; (repeat' first | trivial | rfl | constructor))) (HeldL.refl _) (fun H' hH => OpOk.step (ok_fieldAddr rfl ti_api_Cmd rfl rfl ti_Luint8 (by decide) rfl)) ?_
  refine any_take2 1 rfl (by first | rfl | decide +kernel) rfl rfl (by first | (simp [HeldL]; done) | (simp only [HeldL, List.map_cons, List.map_nil, List.cons_append, List.nil_append, List.set_cons_zero, List.set_cons_succ]; (repeat' first | trivial | rfl | constructor))) (HeldL.refl _) (fun H' hH => OpOk.step (ok_load rfl ti_Luint8 (locA_held hH rfl) rfl)) ?_
  refine any_take2 2 rfl (by first | rfl | decide +kernel) rfl rfl (by first | (simp [HeldL]; done) | (simp only [HeldL, List.map_cons, List.map_nil, List.cons_append, List.nil_append, List.set_cons_zero, List.set_cons_succ]; (repeat' first | trivial | rfl | constructor))) (HeldL.refl _) (fun H' hH => OpOk.step (ok_fieldAddr rfl ti_api_Cmd rfl rfl ti_Luint8 (by decide) rfl)) ?_
  refine any_take2 3 rfl (by first | rfl | decide +kernel) rfl rfl (by first | (simp [HeldL]; done) | (simp only [HeldL, List.map_cons, List.map_nil, List.cons_append, List.nil_append, List.set_cons_zero, List.set_cons_succ]; (repeat' first | trivial | rfl | constructor))) (HeldL.refl _) (fun H' hH => OpOk.step (ok_load rfl ti_Luint8 (locA_held hH rfl) rfl)) ?_
  refine any_one 4 rfl (by first | rfl | decide +kernel) rfl rfl (OpOk.step (((ok_buildSlice (n := 2) (ps := #[(0, .tmp 6), (1, .tmp 8)]) rfl ti_LLuint8 rfl ti_Luint8 (by decide) rfl rfl (by decide) rfl rfl rfl).frz rfl rfl).eq (x' := .fz 1 (rowsA .u8 [a.d, b.d])) (H'' := [some ⟨6, true, [.agg [.int a.k, .int a.z, .int a.a, .int a.n, .fz 1 (ints .u8 a.d), .b a.f]]⟩, some ⟨6, true, [.agg [.int b.k, .int b.z, .int b.a, .int b.n, .fz 1 (ints .u8 b.d), .b b.f]]⟩, some ⟨6, true, [.agg [.int 0, .int 0, .int 0, .int 0, .v (.slice none 0 0), .b false]]⟩, some ⟨1, false, [.fz 1 (ints .u8 a.d), .fz 1 (ints .u8 b.d)]⟩]) rfl rfl)) ⟨(by first | (simp [HeldL]; done) | (simp only [HeldL, List.map_cons, List.map_nil, List.cons_append, List.nil_append, List.set_cons_zero, List.set_cons_succ]; (repeat' first | trivial | rfl | constructor))), .inr (.inr (by first | (simp [HeldL]; done) | (simp only [HeldL, List.map_cons, List.map_nil, List.cons_append, List.nil_append, List.set_cons_zero, List.set_cons_succ]; (repeat' first | trivial | rfl | constructor))))⟩ ?_
  refine any_one 5 rfl (by first | rfl | decide +kernel) rfl rfl (ok_call rfl rfl rfl ((concat_frz a.d b.d hla hlb).plain (by simp [renL, AV.ren, renL_rowsA]) (by simp [AV.ren, renL_ints]))) ⟨(by first | (simp [HeldL]; done) | (simp only [HeldL, List.map_cons, List.map_nil, List.cons_append, List.nil_append, List.set_cons_zero, List.set_cons_succ]; (repeat' first | trivial | rfl | constructor))), .inr (.inr (by first | (simp [HeldL]; done) | (simp only [HeldL, List.map_cons, List.map_nil, List.cons_append, List.nil_append, List.set_cons_zero, List.set_cons_succ]; (repeat' first | trivial | rfl | constructor))))⟩ ?_
  refine any_take2 8 rfl (by first | rfl | decide +kernel) rfl rfl (by first | (simp [HeldL]; done) | (simp only [HeldL, List.map_cons, List.map_nil, List.cons_append, List.nil_append, List.set_cons_zero, List.set_cons_succ]; (repeat' first | trivial | rfl | constructor))) (by first | exact HeldL.refl _ | exact HeldL.append _ _ | simp [HeldL]) (fun H' hH => OpOk.step (ok_fieldAddr rfl ti_api_Cmd rfl rfl ti_Luint8 (by decide) rfl)) ?_
  refine any_one 9 rfl (by first | rfl | decide +kernel) rfl rfl (OpOk.step (ok_store rfl ti_Luint8 (by decide) rfl rfl rfl rfl rfl (by first | exact Nat.le_of_ble_eq_true rfl | simp) (by first | exact .inl ⟨rfl, rfl⟩ | exact .inr rfl))) ⟨(by first | (simp [HeldL]; done) | (simp only [HeldL, List.map_cons, List.map_nil, List.cons_append, List.nil_append, List.set_cons_zero, List.set_cons_succ]; (repeat' first | trivial | rfl | constructor))), .inl rfl⟩ ?_
  refine any_one 10 rfl (by first | rfl | decide +kernel) rfl rfl (OpOk.step (ok_fieldAddr rfl ti_api_Cmd rfl rfl ti_bool (by decide) rfl)) ⟨(by first | (simp [HeldL]; done) | (simp only [HeldL, List.map_cons, List.map_nil, List.cons_append, List.nil_append, List.set_cons_zero, List.set_cons_succ]; (repeat' first | trivial | rfl | constructor))), .inl rfl⟩ ?_
  refine any_one 11 rfl (by first | rfl | decide +kernel) rfl rfl (OpOk.step (ok_store rfl ti_bool (by decide) rfl rfl rfl rfl rfl (by first | exact Nat.le_of_ble_eq_true rfl | simp) (by first | exact .inl ⟨rfl, rfl⟩ | exact .inr rfl))) ⟨(by first | (simp [HeldL]; done) | (simp only [HeldL, List.map_cons, List.map_nil, List.cons_append, List.nil_append, List.set_cons_zero, List.set_cons_succ]; (repeat' first | trivial | rfl | constructor))), .inl rfl⟩ ?_
  refine any_done rfl ?_
  refine keepK hK2 [2, 4] (by dsimp) (by dsimp) ?_
  refine T.seq fun K3 hK3 => ?_
  refine T.region ?_ -- region 2
  refine ro rfl rfl (OpOk.step (ok_load rfl ti_api_Cmd rfl rfl)) ?_
  refine ro rfl rfl (OpOk.step (ok_store rfl ti_api_Cmd (by decide) rfl rfl rfl rfl rfl (by first | exact Nat.le_of_ble_eq_true rfl | simp) (by first | exact .inl ⟨rfl, rfl⟩ | exact .inr rfl))) ?_
  refine ro_nil ?_
  refine keepK hK3 [4] (by dsimp) (by dsimp) ?_
  refine T.ret (hQ _ _ _ rfl ?_).1 -- ret 1
  exact TEnt.fin [] (by decide) (by simp) rfl ⟨by show AV.ren _ (.agg (CmdC (bothC a b))) = _; simp [AV.ren, CmdC_ren], trivial⟩
def mstep (c : Cf) (out : List Cm) (x : Cm) : List Cm := match out.getLast? with
  | some y => if GoesC c y x then out.set (out.length - 1) (bothC y x) else out ++ [x]
  | none => out ++ [x]
def mergeC (c : Cf) (l : List Cm) : List Cm := l.foldl (mstep c) []
theorem mstep_nil (c : Cf) (x : Cm) : mstep c [] x = [x] := rfl
theorem mstep_snoc {c : Cf} {out : List Cm} {y x : Cm} {k : Nat} (hk : out.length = k + 1) (hy : out[k]? = some y) : mstep c out x = if GoesC c y x then out.set k (bothC y x) else out ++ [x] := by
  unfold mstep
  rw [List.getLast?_eq_getElem?, hk, Nat.add_sub_cancel, hy]
theorem mergeC_step {c : Cf} {l : List Cm} {i : Nat} {x : Cm} (h : l[i]? = some x) : mergeC c (l.take (i + 1)) = mstep c (mergeC c (l.take i)) x := by
  rw [take_succ_get h]; simp [mergeC, List.foldl_append]
/-- All bytes. -/
def dsum (l : List Cm) : Nat := (l.map fun x => x.d.length).sum
theorem dsum_snoc (l : List Cm) (x : Cm) : dsum (l ++ [x]) = dsum l + x.d.length := by simp [dsum]
theorem dsum_set {l : List Cm} {k : Nat} {y x : Cm} (h : l[k]? = some y) : dsum (l.set k x) + y.d.length = dsum l + x.d.length := by
  induction l generalizing k with
  | nil => simp at h
  | cons a l ih =>
    cases k with
    | zero => simp at h; subst h; simp [dsum]; omega
    | succ k =>
      have := ih (by simpa using h)
      simp only [dsum, List.set_cons_succ, List.map_cons, List.sum_cons] at this ⊢
      omega
theorem dsum_get {l : List Cm} {k : Nat} {y : Cm} (h : l[k]? = some y) : y.d.length ≤ dsum l := by
  induction l generalizing k with
  | nil => simp at h
  | cons a l ih =>
    cases k with
    | zero => simp at h; subst h; simp [dsum]
    | succ k =>
      have := ih (by simpa using h)
      simp only [dsum, List.map_cons, List.sum_cons] at this ⊢
      omega
theorem mstep_dsum (c : Cf) (out : List Cm) (x : Cm) : dsum (mstep c out x) = dsum out + x.d.length ∧ (mstep c out x).length ≤ out.length + 1 := by
  rcases Nat.eq_zero_or_pos out.length with h | h
  · have : out = [] := List.eq_nil_of_length_eq_zero h
    subst this
    simp [mstep_nil, dsum]
  · obtain ⟨k, hk⟩ : ∃ k, out.length = k + 1 := ⟨out.length - 1, by omega⟩
    obtain ⟨y, hy⟩ : ∃ y, out[k]? = some y := ⟨_, List.getElem?_eq_getElem (by omega)⟩
    rw [mstep_snoc hk hy]
    split
    · have := dsum_set (x := bothC y x) hy
      have e : (bothC y x).d.length = y.d.length + x.d.length := by simp [bothC]
      simp; omega
    · rw [dsum_snoc]; simp
theorem mergeC_dsum (c : Cf) (l : List Cm) : ∀ i, i ≤ l.length → dsum (mergeC c (l.take i)) = dsum (l.take i) ∧ (mergeC c (l.take i)).length ≤ i
  | 0, _ => by simp [mergeC, dsum]
  | i + 1, hi => by
    obtain ⟨x, hx⟩ : ∃ x, l[i]? = some x := ⟨_, List.getElem?_eq_getElem (by omega)⟩
    have := mergeC_dsum c l i (by omega)
    have h2 := mstep_dsum c (mergeC c (l.take i)) x
    rw [mergeC_step hx, take_succ_get hx, dsum_snoc]
    omega
theorem dsum_take (l : List Cm) (i : Nat) : dsum (l.take i) ≤ dsum l := by
  have : dsum l = dsum (l.take i) + dsum (l.drop i) := by
    conv => lhs; rw [← List.take_append_drop i l]
    simp only [dsum, List.map_append, List.sum_append]
  omega
set_option maxHeartbeats 2000000 in
theorem fold_ok (c : Cf) (l : List Cm) (hl : l.length ≤ 1000) (hd : dsum l ≤ 10000000) : CSpec Try.prog 71 [CB c] [.fz 6 (Cms l), .fn (.func 68) [] [.ref 0 0 0], .fn (.func 69) [] []] [some (CB c), some (CmsB (mergeC c l))] (.sl 1 0 (mergeC c l).length) := by
  refine CSpec.body Try.func71 rfl rfl rfl rfl rfl fun Q hQ => ?_
  refine T.seq fun K1 hK1 => ?_
  refine T.region ?_ -- region 0
  refine ro rfl rfl (OpOk.step (ok_move (.inr rfl))) ?_
  refine ro_nil ?_
  refine keepK hK1 [0, 1, 2] (by dsimp) (by dsimp) ?_
  refine T.seq fun K2 hK2 => ?_
  refine T.region ?_ -- region 1
  refine ro rfl rfl (OpOk.step (ok_move (.inr rfl))) ?_
  refine ro_nil ?_
  refine keepK hK2 [0, 1, 2, 7] (by dsimp) (by dsimp) ?_
  refine T.seq fun K3 hK3 => ?_
  refine T.seq fun K4 hK4 => ?_
  refine T.region ?_ -- region 2
  refine ro rfl rfl (OpOk.step (ok_move (.inl rfl))) ?_
  refine ro rfl rfl (OpOk.step (ok_len' rfl rfl ti_Lapi_Cmd rfl (by first | exact ints_length _ _ | exact rowsA_length _ _ | exact Cms_len _ | exact mapLen _ | rfl))) ?_
  refine ro rfl rfl (OpOk.step (ok_move (.inl rfl))) ?_
  refine ro_nil ?_
  refine keepK hK4 [1, 2, 7, 11, 12, 13] (by dsimp) (by dsimp) ?_
  refine T.block ?_
  refine T.loopI (ι := Nat) (fun i => i ≤ l.length) (fun i => l.length - i) (fun i => ([(1, .fn (.func 68) [] [.ref 0 0 0]), (2, .fn (.func 69) [] []), (7, .sl 1 0 (mergeC c (l.take i)).length), (11, .fz 6 (Cms l)), (12, .int l.length), (13, .int i)], [some (CB c), some (CmsB (mergeC c (l.take i)))])) 0 (Nat.zero_le _) ((TEnt.empty 7 6 (by decide) (.inr rfl)).trans (TEnt.toH rfl ⟨rfl, rfl, rfl, rfl, rfl, rfl, trivial⟩)) (fun i hi => ?_) -- loop 1
  refine T.seq fun K5 hK5 => ?_
  refine T.region ?_ -- region 3
  refine ro rfl rfl (OpOk.step (ok_binOp rfl ti_int rfl)) ?_
  refine ro_nil ?_
  refine keepK hK5 [1, 2, 7, 11, 12, 13, 14] (by dsimp) (by dsimp) ?_
  refine T.seq fun K6 hK6 => ?_
  refine T.cond rfl (fun hc => ?_) (fun hc => ?_) -- cond 1
  · (try simp only [decide_eq_true_eq, decide_eq_false_iff_not, beq_iff_eq, beq_eq_false_iff_ne, bne_iff_ne, bne_eq_false_iff_eq, ne_eq, Bool.not_eq_true', Bool.not_eq_false'] at hc)
    obtain ⟨x, hx⟩ : ∃ x, l[i]? = some x := ⟨_, List.getElem?_eq_getElem (by omega)⟩
    have hst := mergeC_step (c := c) hx
    have hds := mergeC_dsum c l i (by omega)
    have hdt := dsum_take l i
    have hdx := dsum_get hx
    generalize hO : mergeC c (l.take i) = O at hst hds ⊢
    refine T.skip ?_
    refine keepK hK6 [1, 2, 7, 11, 12, 13] (by dsimp) (by dsimp) ?_
    refine T.seq fun K7 hK7 => ?_
    refine T.block ?_
    refine T.seq fun K8 hK8 => ?_
    refine T.region ?_ -- region 4
    refine ro rfl rfl (OpOk.step (by exact ok_index_map (F := CmdC) rfl ti_Lapi_Cmd rfl ti_api_Cmd rfl rfl rfl hx (by simp [CmdC]))) ?_
    refine ro rfl rfl (OpOk.step ((ok_load rfl ti_api_Cmd rfl rfl).eq (x' := .agg (CmdC x)) rfl rfl)) ?_
    refine ro rfl rfl (OpOk.step (ok_alloc rfl ti_api_Cmd rfl (by decide))) ?_
    refine ro rfl rfl (OpOk.step ((ok_store rfl ti_api_Cmd (by decide) rfl rfl rfl rfl rfl (Nat.le_of_ble_eq_true rfl) (.inl ⟨rfl, rfl⟩)).eq (x' := .any) (H'' := [some (CB c), some (CmsB O), some (CmdB x)]) rfl rfl)) ?_
    refine ro_nil ?_
    refine keepK hK8 [1, 2, 7, 9, 11, 12, 13] (by dsimp) (by dsimp) ?_
    refine T.seq fun K9 hK9 => ?_
    refine T.region ?_ -- region 5
    refine ro rfl rfl (OpOk.step (ok_move (.inl rfl))) ?_
    refine ro rfl rfl (OpOk.step (ok_len' rfl rfl ti_Lapi_Cmd rfl (by first | exact ints_length _ _ | exact rowsA_length _ _ | exact Cms_len _ | exact mapLen _ | rfl))) ?_
    refine ro rfl rfl (OpOk.step (ok_sub64 rfl ti_int rfl rfl (by omega) (by omega))) ?_
    refine ro rfl rfl (OpOk.step (ok_move (.inr rfl))) ?_
    refine ro_nil ?_
    refine keepK hK9 [1, 2, 7, 9, 10, 11, 12, 13] (by dsimp) (by dsimp) ?_
    refine T.seq fun K10 hK10 => ?_
    refine T.seq fun K11 hK11 => ?_
    refine T.drawH mixed [] ?_ -- region 6
    refine any_take 0 rfl (by first | rfl | decide +kernel) rfl (HeldL.refl _) (fun H' hH => OpOk.step (ok_move (.inl rfl))) ?_
    refine any_take 1 rfl (by first | rfl | decide +kernel) rfl (HeldL.refl _) (fun H' hH => OpOk.step (ok_binOp rfl ti_int rfl)) ?_
    refine any_take_case 2 rfl (by first | rfl | decide +kernel) rfl (HeldL.refl _) (fun H' hH => OpOk.step (ok_moveb (.inl rfl) rfl)) (fun hb => ?_) (fun hb => ?_)
    · (try simp only [decide_eq_true_eq, decide_eq_false_iff_not, beq_iff_eq, beq_eq_false_iff_ne, bne_iff_ne, bne_eq_false_iff_eq, ne_eq, Bool.not_eq_true', Bool.not_eq_false'] at hb)
      obtain ⟨k, hk⟩ : ∃ k, O.length = k + 1 := ⟨O.length - 1, by first | omega | (simp at hb; omega)⟩
      obtain ⟨y, hy⟩ : ∃ y, O[k]? = some y := ⟨_, List.getElem?_eq_getElem (by omega)⟩
      have hms := mstep_snoc (c := c) (x := x) hk hy
      have hdy := dsum_get hy
      have hkz : ((O.length : Int) - 1).toNat = k := by omega
      refine any_take 3 rfl (by first | rfl | decide +kernel) rfl (HeldL.refl _) (fun H' hH => OpOk.step (ok_move (.inl rfl))) ?_
      refine any_take 4 rfl (by first | rfl | decide +kernel) rfl (HeldL.refl _) (fun H' hH => OpOk.step (ok_move (.inl rfl))) ?_
      refine any_take 5 rfl (by first | rfl | decide +kernel) rfl (HeldL.refl _) (fun H' hH => OpOk.step (ok_move (.inl rfl))) ?_
      refine any_take 6 rfl (by first | rfl | decide +kernel) rfl (HeldL.refl _) (fun H' hH => OpOk.step ((ok_index_sl rfl ti_Lapi_Cmd rfl ti_api_Cmd rfl (hH.get rfl) rfl rfl (by omega) (by omega)).eq (x' := .ref 1 k 0) (by rw [hkz, Nat.zero_add]) rfl)) ?_
      refine any_take 7 rfl (by first | rfl | decide +kernel) rfl (HeldL.refl _) (fun H' hH => OpOk.step ((ok_load rfl ti_api_Cmd (locA_map (F := CmdC) (l := O) (hH.get rfl) rfl hy (by simp [CmdC])) rfl).eq (x' := .agg (CmdC y)) rfl rfl)) ?_
      refine any_take 8 rfl (by first | rfl | decide +kernel) rfl (HeldL.refl _) (fun H' hH => OpOk.step ((ok_load rfl ti_api_Cmd (locA_held hH rfl) rfl).eq (x' := .agg (CmdC x)) rfl rfl)) ?_
      refine any_one 9 rfl (by first | rfl | decide +kernel) rfl rfl (ok_call rfl rfl rfl (((goes1_ok c y x (by omega) (by omega)).pass [0] (by decide) (by simp) (by simp [normH, hget, CB_ren]) (by simp [renL, AV.ren, CmdC_ren]; rfl)).eq (x' := .b (decide (GoesC c y x))) (H'' := [some (CB c), some (CmsB O), some (CmdB x)]) rfl (by simp [mergeH, setIds, renH, CB_ren]))) (.inr (by first | (simp [HeldL]; done) | (simp only [HeldL, List.map_cons, List.map_nil, List.cons_append, List.nil_append, List.set_cons_zero, List.set_cons_succ]; (repeat' first | trivial | rfl | constructor)))) ?_
      refine any_take 10 rfl (by first | rfl | decide +kernel) rfl (by first | exact HeldL.refl _ | exact HeldL.append _ _ | simp [HeldL]) (fun H' hH => OpOk.step (ok_pick rfl rfl)) ?_
      refine any_done rfl ?_
      refine keepK hK11 [1, 2, 7, 9, 10, 11, 12, 13, 30] (by dsimp) (by dsimp) ?_
      refine T.cond rfl (fun hc => ?_) (fun hc => ?_) -- cond 2
      · (try simp only [decide_eq_true_eq, decide_eq_false_iff_not, beq_iff_eq, beq_eq_false_iff_ne, bne_iff_ne, bne_eq_false_iff_eq, ne_eq, Bool.not_eq_true', Bool.not_eq_false'] at hc)
        have hgo : GoesC c y x := by simpa using hc
        rw [if_pos hgo] at hms
        refine T.seq fun K12 hK12 => ?_
        refine T.drawH mixed [10] ?_ -- region 7
        refine any_take 0 rfl (by first | rfl | decide +kernel) rfl (HeldL.refl _) (fun H' hH => OpOk.step (ok_move (.inl rfl))) ?_
        refine any_take 1 rfl (by first | rfl | decide +kernel) rfl (HeldL.refl _) (fun H' hH => OpOk.step (ok_move (.inl rfl))) ?_
        refine any_take 2 rfl (by first | rfl | decide +kernel) rfl (HeldL.refl _) (fun H' hH => OpOk.step (ok_move (.inl rfl))) ?_
        refine any_take 3 rfl (by first | rfl | decide +kernel) rfl (HeldL.refl _) (fun H' hH => OpOk.step (ok_move (.inl rfl))) ?_
        refine any_take 4 rfl (by first | rfl | decide +kernel) rfl (HeldL.refl _) (fun H' hH => OpOk.step (ok_move (.inl rfl))) ?_
        refine any_take 5 rfl (by first | rfl | decide +kernel) rfl (HeldL.refl _) (fun H' hH => OpOk.step ((ok_index_sl rfl ti_Lapi_Cmd rfl ti_api_Cmd rfl (hH.get rfl) rfl rfl (by omega) (by omega)).eq (x' := .ref 1 k 0) (by rw [hkz, Nat.zero_add]) rfl)) ?_
        refine any_take 6 rfl (by first | rfl | decide +kernel) rfl (HeldL.refl _) (fun H' hH => OpOk.step ((ok_load rfl ti_api_Cmd (locA_map (F := CmdC) (l := O) (hH.get rfl) rfl hy (by simp [CmdC])) rfl).eq (x' := .agg (CmdC y)) rfl rfl)) ?_
        refine any_take 7 rfl (by first | rfl | decide +kernel) rfl (HeldL.refl _) (fun H' hH => OpOk.step ((ok_load rfl ti_api_Cmd (locA_held hH rfl) rfl).eq (x' := .agg (CmdC x)) rfl rfl)) ?_
        refine any_one 8 rfl (by first | rfl | decide +kernel) rfl rfl (ok_call rfl rfl rfl ((both_ok y x (by omega) (by omega)).plain (by simp [renL, AV.ren, CmdC_ren]) (by simp [AV.ren, CmdC_ren]))) (.inr (by first | (simp [HeldL]; done) | (simp only [HeldL, List.map_cons, List.map_nil, List.cons_append, List.nil_append, List.set_cons_zero, List.set_cons_succ]; (repeat' first | trivial | rfl | constructor)))) ?_
        refine any_take 9 rfl (by first | rfl | decide +kernel) rfl (by first | exact HeldL.refl _ | exact HeldL.append _ _ | simp [HeldL]) (fun H' hH => OpOk.step ((ok_index_sl rfl ti_Lapi_Cmd rfl ti_api_Cmd rfl (hH.get rfl) rfl rfl (by omega) (by omega)).eq (x' := .ref 1 k 0) (by rw [hkz, Nat.zero_add]) rfl)) ?_
        refine any_one 10 rfl (by first | rfl | decide +kernel) rfl rfl (OpOk.step ((ok_store rfl ti_api_Cmd (by decide) rfl rfl rfl (el := .agg (CmdC y)) (Cms_get hy) rfl (Nat.le_of_ble_eq_true rfl) (.inl ⟨rfl, rfl⟩)).eq (x' := .any) (H'' := [some (CB c), some (CmsB (O.set k (bothC y x))), some (CmdB x)]) rfl (by simp [CmsB, ← Cms_set]))) (.inl (by simp)) ?_
        refine any_done rfl ?_
        refine keepK hK12 [1, 2, 7, 11, 12, 13] (by dsimp) (by dsimp) ?_
        refine T.exit ?_
        refine keepK hK7 [1, 2, 7, 11, 12, 13] (by dsimp) (by dsimp) ?_
        refine T.region ?_ -- region 9
        refine ro rfl rfl (OpOk.step (ok_add64 rfl ti_int rfl rfl (by omega) (by omega))) ?_
        refine ro rfl rfl (OpOk.step (ok_move (.inl rfl))) ?_
        refine ro_nil ?_
        rw [hms] at hst
        first
          | exact ⟨i + 1, by omega, by omega, TEnt.fin [0, 1] (by decide) (by simp) (by rw [hst]; simp [normH, hget, CB_ren, CmsB_ren]) ⟨rfl, rfl, by rw [hst]; simp; rfl, by simp [AV.ren, Cms_ren], rfl, rfl, trivial⟩⟩
          | exact ⟨i + 1, by omega, by omega, TEnt.fin [0, 4] (by decide) (by simp) (by rw [hst]; simp [normH, hget, CB_ren, CmsB_ren]) ⟨rfl, rfl, by rw [hst]; simp; rfl, by simp [AV.ren, Cms_ren], rfl, rfl, trivial⟩⟩
      · (try simp only [decide_eq_true_eq, decide_eq_false_iff_not, beq_iff_eq, beq_eq_false_iff_ne, bne_iff_ne, bne_eq_false_iff_eq, ne_eq, Bool.not_eq_true', Bool.not_eq_false'] at hc)
        have hgo : ¬ GoesC c y x := by simpa using hc
        rw [if_neg hgo] at hms
        refine T.skip ?_
        refine keepK hK10 [1, 2, 7, 9, 11, 12, 13] (by dsimp) (by dsimp) ?_
        refine T.region ?_ -- region 8
        refine ro rfl rfl (OpOk.step (ok_move (.inl rfl))) ?_
        refine ro rfl rfl (OpOk.step ((ok_load rfl ti_api_Cmd rfl rfl).eq (x' := .agg (CmdC x)) rfl rfl)) ?_
        refine ro rfl rfl (OpOk.step (ok_buildSlice (n := 1) (ps := #[(0, .tmp 42)]) rfl ti_Lapi_Cmd rfl ti_api_Cmd (by decide) rfl rfl (by decide) rfl rfl rfl)) ?_
        refine ro rfl rfl (OpOk.step ((ok_append_map (fun a => .agg (CmdC a)) (xs := O) (ys := [x]) rfl ti_Lapi_Cmd rfl ti_api_Cmd (by decide) (by decide) rfl ti_Lapi_Cmd (by simp) rfl rfl rfl rfl rfl rfl rfl rfl rfl (by show (_ + 1) * 64 ≤ _; omega)).eq (x' := .sl 4 0 (O ++ [x]).length) (H'' := [some (CB c), none, some (CmdB x), some (CmsB [x]), some (CmsB (O ++ [x]))]) rfl rfl)) ?_
        refine ro rfl rfl (OpOk.step (ok_move (.inr rfl))) ?_
        refine ro_nil ?_
        refine keepK hK7 [1, 2, 7, 11, 12, 13] (by dsimp) (by dsimp) ?_
        refine T.region ?_ -- region 9
        refine ro rfl rfl (OpOk.step (ok_add64 rfl ti_int rfl rfl (by omega) (by omega))) ?_
        refine ro rfl rfl (OpOk.step (ok_move (.inl rfl))) ?_
        refine ro_nil ?_
        rw [hms] at hst
        first
          | exact ⟨i + 1, by omega, by omega, TEnt.fin [0, 1] (by decide) (by simp) (by rw [hst]; simp [normH, hget, CB_ren, CmsB_ren]) ⟨rfl, rfl, by rw [hst]; simp; rfl, by simp [AV.ren, Cms_ren], rfl, rfl, trivial⟩⟩
          | exact ⟨i + 1, by omega, by omega, TEnt.fin [0, 4] (by decide) (by simp) (by rw [hst]; simp [normH, hget, CB_ren, CmsB_ren]) ⟨rfl, rfl, by rw [hst]; simp; rfl, by simp [AV.ren, Cms_ren], rfl, rfl, trivial⟩⟩
    · (try simp only [decide_eq_true_eq, decide_eq_false_iff_not, beq_iff_eq, beq_eq_false_iff_ne, bne_iff_ne, bne_eq_false_iff_eq, ne_eq, Bool.not_eq_true', Bool.not_eq_false'] at hb)
      have hO0 : O = [] := by
        have : ¬ (0 < O.length) := by first | omega | (simp at hb; omega)
        exact List.eq_nil_of_length_eq_zero (by omega)
      have hms : mstep c O x = O ++ [x] := by rw [hO0]; rfl
      refine any_skip 3 rfl (by first | rfl | decide +kernel) rfl (HeldL.refl _) ?_
      refine any_skip 4 rfl (by first | rfl | decide +kernel) rfl (HeldL.refl _) ?_
      refine any_skip 5 rfl (by first | rfl | decide +kernel) rfl (HeldL.refl _) ?_
      refine any_skip 6 rfl (by first | rfl | decide +kernel) rfl (HeldL.refl _) ?_
      refine any_skip 7 rfl (by first | rfl | decide +kernel) rfl (HeldL.refl _) ?_
      refine any_skip 8 rfl (by first | rfl | decide +kernel) rfl (HeldL.refl _) ?_
      refine any_one_skip 9 rfl (by first | rfl | decide +kernel) rfl rfl (.inr (HeldL.refl _)) ?_
      refine any_take 10 rfl (by first | rfl | decide +kernel) rfl (by first | exact HeldL.refl _ | exact HeldL.append _ _ | simp [HeldL]) (fun H' hH => OpOk.step (ok_pickb (t := false) (d := false) rfl rfl rfl)) ?_
      refine any_done rfl ?_
      refine keepK hK11 [1, 2, 7, 9, 10, 11, 12, 13, 30] (by dsimp) (by dsimp) ?_
      refine T.cond_false rfl ?_
      refine T.skip ?_
      refine keepK hK10 [1, 2, 7, 9, 11, 12, 13] (by dsimp) (by dsimp) ?_
      refine T.region ?_ -- region 8
      refine ro rfl rfl (OpOk.step (ok_move (.inl rfl))) ?_
      refine ro rfl rfl (OpOk.step ((ok_load rfl ti_api_Cmd rfl rfl).eq (x' := .agg (CmdC x)) rfl rfl)) ?_
      refine ro rfl rfl (OpOk.step (ok_buildSlice (n := 1) (ps := #[(0, .tmp 42)]) rfl ti_Lapi_Cmd rfl ti_api_Cmd (by decide) rfl rfl (by decide) rfl rfl rfl)) ?_
      refine ro rfl rfl (OpOk.step ((ok_append_map (fun a => .agg (CmdC a)) (xs := O) (ys := [x]) rfl ti_Lapi_Cmd rfl ti_api_Cmd (by decide) (by decide) rfl ti_Lapi_Cmd (by simp) rfl rfl rfl rfl rfl rfl rfl rfl rfl (by show (_ + 1) * 64 ≤ _; omega)).eq (x' := .sl 4 0 (O ++ [x]).length) (H'' := [some (CB c), none, some (CmdB x), some (CmsB [x]), some (CmsB (O ++ [x]))]) rfl rfl)) ?_
      refine ro rfl rfl (OpOk.step (ok_move (.inr rfl))) ?_
      refine ro_nil ?_
      refine keepK hK7 [1, 2, 7, 11, 12, 13] (by dsimp) (by dsimp) ?_
      refine T.region ?_ -- region 9
      refine ro rfl rfl (OpOk.step (ok_add64 rfl ti_int rfl rfl (by omega) (by omega))) ?_
      refine ro rfl rfl (OpOk.step (ok_move (.inl rfl))) ?_
      refine ro_nil ?_
      rw [hms] at hst
      first
        | exact ⟨i + 1, by omega, by omega, TEnt.fin [0, 1] (by decide) (by simp) (by rw [hst]; simp [normH, hget, CB_ren, CmsB_ren]) ⟨rfl, rfl, by rw [hst]; simp; rfl, by simp [AV.ren, Cms_ren], rfl, rfl, trivial⟩⟩
        | exact ⟨i + 1, by omega, by omega, TEnt.fin [0, 4] (by decide) (by simp) (by rw [hst]; simp [normH, hget, CB_ren, CmsB_ren]) ⟨rfl, rfl, by rw [hst]; simp; rfl, by simp [AV.ren, Cms_ren], rfl, rfl, trivial⟩⟩
  · (try simp only [decide_eq_true_eq, decide_eq_false_iff_not, beq_iff_eq, beq_eq_false_iff_ne, bne_iff_ne, bne_eq_false_iff_eq, ne_eq, Bool.not_eq_true', Bool.not_eq_false'] at hc)
    have hin : i = l.length := by omega
    subst hin
    rw [List.take_length]
    refine T.exit ?_
    refine keepK hK3 [7] (by dsimp) (by dsimp) ?_
    refine T.seq fun K13 hK13 => ?_
    refine T.region ?_ -- region 10
    refine ro rfl rfl (OpOk.step (ok_move (.inl rfl))) ?_
    refine ro rfl rfl (OpOk.step (ok_move (.inr rfl))) ?_
    refine ro_nil ?_
    refine keepK hK13 [6] (by dsimp) (by dsimp) ?_
    refine T.ret (hQ _ _ _ rfl ?_).1 -- ret 1
    exact TEnt.toH rfl ⟨rfl, trivial⟩
end Go.Proofs.Ytknhemdpfdopaaa.AmF
