/- Walks over the abstract machine: a member: a new one. -/
import Derived.Test.YtlegolcbjjjofaaAfZdev6
namespace Go.Proofs.Ytlegolcbjjjofaa.AmF
open Go Go.AM
set_option maxRecDepth 100000
set_option maxHeartbeats 4000000
set_option linter.unusedSimpArgs false
set_option linter.unusedVariables false
attribute [local simp] tkeep tget tput ev cav argsTM pickA normT putA splice AV.cells ints_length rowsA_length Zqs_len
theorem emptyAtZ {k : Nat} {tm : TM} {H : Heap} (t i es : Nat) (he : 0 < es) {l : List AV} (h : tget tm t = .agg l) (hi : l[i]? = some (.v (.slice none 0 0))) : TEnt k tm H ((t, .agg (l.set i (.sl H.length 0 0))) :: tm) (H ++ [some ⟨es, true, []⟩]) := by
  intro g vs hH hk hg ht
  subst hH
  obtain ⟨hgv, hsv⟩ := vpush_ok he hg
  refine ⟨g.vpush es, rfl, rfl, hgv, fun t' => ?_, hsv.ext, hsv.pin hk⟩
  simp only [tget]
  by_cases ht' : t = t'
  · subst ht'
    rw [if_pos rfl]
    have hr := Rel.mono hsv.ren (ht t)
    rw [h] at hr
    simp only [Rel] at hr ⊢
    obtain ⟨cs, e1, hl⟩ := hr
    obtain ⟨y, hy, hyr⟩ := hl.get hi
    simp only [Rel] at hyr
    subst hyr
    have hset : cs.toList.set i (.slice none 0 0) = cs.toList := by
      apply List.ext_getElem?
      intro j
      rw [List.getElem?_set]
      by_cases hj : i = j
      · subst hj
        have := (List.getElem?_eq_some_iff.1 hy).1
        rw [if_pos rfl, if_pos this, hy]
      · rw [if_neg hj]
    refine ⟨cs, e1, ?_⟩
    rw [← hset]
    refine RelL.set i hl ?_
    simp only [Rel]
    refine ⟨by simp [G.vpush], none, 0, rfl, fun k' hk' => ⟨Nat.le_refl _, ?_, fun h => absurd rfl h⟩⟩
    have e1 : (g.vpush es).sz g.H.length = 0 := by simp [G.vpush]
    have e2 : (g.vpush es).bs g.H.length = 0 := by simp [G.vpush]
    rw [e1, e2]; simp
  · rw [if_neg ht']
    exact Rel.mono hsv.ren (ht t')
theorem zdin_ok (n m : Int) : CSpec Try.prog 45 [] [.int n, .int m] [] (.b (decide (1 ≤ n) && decide (n ≤ m))) := by
 refine CSpec.body Try.func45 rfl rfl rfl rfl rfl fun Q hQ => ?_
 refine T.seq fun K1 hK1 => ?_
 refine T.region ?_
 refine rs rfl rfl (ok_moveb (c := false) (.inr rfl) rfl) ?_
 refine ro_nil ?_
 refine keepK hK1 [0, 1] (by dsimp) (by dsimp) ?_
 refine T.seq fun K2 hK2 => ?_
 refine T.region ?_
 refine rs rfl rfl (ok_move (.inl rfl)) ?_
 refine rs rfl rfl (ok_binOp rfl ti_int rfl) ?_
 refine ro_case rfl rfl (OpOk.step (ok_moveb (.inl rfl) rfl)) (fun hb => ?_) (fun hb => ?_)
 ·(try simp only [dE] at hb)
  refine rs rfl rfl (ok_move (.inl rfl)) ?_
  refine rs rfl rfl (ok_move (.inl rfl)) ?_
  refine rs rfl rfl (ok_binOp rfl ti_int rfl) ?_
  refine rs rfl rfl (ok_pick rfl rfl) ?_
  refine rs rfl rfl (ok_move (.inr rfl)) ?_
  refine ro_nil ?_
  refine keepK hK2 [4] (by dsimp) (by dsimp) ?_
  refine T.ret (hQ _ _ _ rfl ?_).1 -- ret 1
  exact by first | exact TEnt.fin [] (by decide) (by simp) rfl ⟨by show AV.b (decide (n ≤ m)) = _; rw [show decide (1 ≤ n) = true from decide_eq_true (by omega)]; rfl, trivial⟩ | exact TEnt.fin [] (by decide) (by simp) rfl ⟨by show AV.b false = _; rw [show decide (1 ≤ n) = false from decide_eq_false (by omega)]; rfl, trivial⟩
 ·(try simp only [dE] at hb)
  refine ro_skip rfl rfl ?_
  refine ro_skip rfl rfl ?_
  refine ro_skip rfl rfl ?_
  refine rs rfl rfl (ok_pickb (t := false) (d := false) rfl rfl rfl) ?_
  refine rs rfl rfl (ok_moveb (c := false) (.inr rfl) rfl) ?_
  refine ro_nil ?_
  refine keepK hK2 [4] (by dsimp) (by dsimp) ?_
  refine T.ret (hQ _ _ _ rfl ?_).1 -- ret 2
  exact by first | exact TEnt.fin [] (by decide) (by simp) rfl ⟨by show AV.b (decide (n ≤ m)) = _; rw [show decide (1 ≤ n) = true from decide_eq_true (by omega)]; rfl, trivial⟩ | exact TEnt.fin [] (by decide) (by simp) rfl ⟨by show AV.b false = _; rw [show decide (1 ≤ n) = false from decide_eq_false (by omega)]; rfl, trivial⟩
theorem srcq31 : ∀ j, j < 0 → [3, 1][j]? = some j := by simp
theorem srcq10 : ∀ j, j < 0 → [1, 0][j]? = some j := by simp
def nz (cap blk : Int) : Zq := ⟨cap, blk, [], 0, false⟩
/-- A new member. -/
def newD (n : Nat) (cap blk lim : Int) : Dv := ⟨List.replicate n (nz cap blk), lim, false, 0⟩
theorem zdnew_ok (n : Nat) (cap blk lim : Int) (hn : 1 ≤ n ∧ n ≤ 64) (hc1 : 1 ≤ cap ∧ cap ≤ 4096) (hb1 : 1 ≤ blk ∧ blk ≤ 4096) (hl : 1 ≤ lim) : CSpec Try.prog 10 [] [.int n, .int cap, .int blk, .int lim] [some (DvB (newD n cap blk lim) 1), some (ZqsB (newD n cap blk lim).zs)] (.tup [.ref 0 0 0, .int 0]) := by
 refine CSpec.body Try.func10 rfl rfl rfl rfl rfl fun Q hQ => ?_
 refine T.seq fun K1 hK1 => ?_
 refine T.region ?_
 refine rs rfl rfl (ok_move (.inr rfl)) ?_
 refine rs rfl rfl (ok_move (.inr rfl)) ?_
 refine ro_nil ?_
 refine keepK hK1 [0, 1, 2, 3] (by dsimp) (by dsimp) ?_
 refine T.seq fun K2 hK2 => ?_
 refine T.region ?_
 refine rs rfl rfl (ok_move (.inr rfl)) ?_
 refine ro_nil ?_
 refine keepK hK2 [0, 1, 2, 3, 10] (by dsimp) (by dsimp) ?_
 refine T.seq fun K3 hK3 => ?_
 refine T.seq fun K4 hK4 => ?_
 refine T.region ?_
 refine rs rfl rfl (ok_move (.inl rfl)) ?_
 refine rs rfl rfl (ok_move (.inl rfl)) ?_
 refine ro rfl rfl (ok_call rfl rfl rfl (((zdin_ok n 64).plain rfl rfl).eq (x' := .b true) (by simp; omega) rfl)) ?_
 refine rs rfl rfl (ok_unOp rfl rfl) ?_
 refine rs rfl rfl (OpOk.bool (d := false) (ok_moveb (.inl rfl) rfl) (rfl)) ?_
 refine rs rfl rfl (ok_move (.inl rfl)) ?_
 refine rs rfl rfl (ok_move (.inl rfl)) ?_
 refine ro rfl rfl (ok_call rfl rfl rfl (((zdin_ok cap 4096).plain rfl rfl).eq (x' := .b true) (by simp; omega) rfl)) ?_
 refine rs rfl rfl (ok_unOp rfl rfl) ?_
 refine rs rfl rfl (ok_pick rfl rfl) ?_
 refine rs rfl rfl (OpOk.bool (d := false) (ok_moveb (.inl rfl) rfl) (rfl)) ?_
 refine rs rfl rfl (ok_move (.inl rfl)) ?_
 refine rs rfl rfl (ok_move (.inl rfl)) ?_
 refine ro rfl rfl (ok_call rfl rfl rfl (((zdin_ok blk 4096).plain rfl rfl).eq (x' := .b true) (by simp; omega) rfl)) ?_
 refine rs rfl rfl (ok_unOp rfl rfl) ?_
 refine rs rfl rfl (ok_pick rfl rfl) ?_
 refine rs rfl rfl (OpOk.bool (d := false) (ok_moveb (.inl rfl) rfl) (rfl)) ?_
 refine rs rfl rfl (ok_move (.inl rfl)) ?_
 refine rs rfl rfl (ok_binOp rfl ti_int rfl) ?_
 refine rs rfl rfl (OpOk.bool (d := false) (ok_pickb rfl rfl rfl) ((by simp; omega))) ?_
 refine ro_nil ?_
 refine keepK hK4 [0, 1, 2, 3, 31] (by dsimp) (by dsimp) ?_
 refine T.cond_false rfl ?_
 refine T.skip ?_
 refine keepK hK3 [0, 1, 2, 3] (by dsimp) (by dsimp) ?_
 refine T.seq fun K5 hK5 => ?_
 refine T.region ?_
 refine rs rfl rfl (ok_move (.inl rfl)) ?_
 refine rs rfl rfl (((ok_build rfl ti_zdev_Dev rfl).eq (x' := .agg [.v (.slice none 0 0), .int lim, .b false, .int 0]) rfl rfl).tent ((emptyAtZ 0 0 5 (by decide) rfl rfl).trans (TEnt.to ⟨rfl, trivial⟩))) ?_
 refine rs rfl rfl ((ok_box (n := 4) rfl rfl (by decide)).eq (x' := .ref 1 0 0) (H'' := [some (ZqsB (newD 0 cap blk lim).zs), some (DvB (newD 0 cap blk lim) 0)]) rfl rfl) ?_
 refine rs rfl rfl (ok_move (.inr rfl)) ?_
 refine ro_nil ?_
 refine keepK hK5 [0, 1, 2, 11] (by dsimp) (by dsimp) ?_
 refine T.seq fun K6 hK6 => ?_
 refine T.seq fun K7 hK7 => ?_
 refine T.region ?_
 refine rs rfl rfl (ok_move (.inl rfl)) ?_
 refine rs rfl rfl (ok_move (.inl rfl)) ?_
 refine ro_nil ?_
 refine keepK hK7 [1, 2, 11, 35, 36] (by dsimp) (by dsimp) ?_
 refine T.block ?_
 refine T.loopI (ι := Nat) (fun i => i ≤ n) (fun i => n - i) (fun i => ([(1, .int cap), (2, .int blk), (11, .ref 1 0 0), (35, .int n), (36, .int i)], [some (ZqsB (newD i cap blk lim).zs), some (DvB (newD i cap blk lim) 0)])) 0 (Nat.zero_le _) (TEnt.toH rfl ⟨rfl, rfl, rfl, rfl, rfl, trivial⟩) (fun i hi => ?_) -- loop 1
 refine T.seq fun K8 hK8 => ?_
 refine T.region ?_
 refine rs rfl rfl (ok_binOp rfl ti_int rfl) ?_
 refine ro_nil ?_
 refine keepK hK8 [1, 2, 11, 35, 36, 37] (by dsimp) (by dsimp) ?_
 refine T.seq fun K9 hK9 => ?_
 refine T.cond rfl (fun hc => ?_) (fun hc => ?_) -- cond 1
 ·(try simp only [dE] at hc)
  refine T.skip ?_
  refine keepK hK9 [1, 2, 11, 35, 36] (by dsimp) (by dsimp) ?_
  refine T.seq fun K10 hK10 => ?_
  refine T.block ?_
  refine T.draw mixed (SH [12] (HeldL ([none, some (DvB (newD i cap blk lim) 0)]))) ?_
  refine any_take 0 rfl (by first | rfl | decide +kernel) rfl (by first | (simp [HeldL]; done) | (simp only [dH]; (repeat' first | trivial | rfl | constructor))) (fun H' hH => OpOk.step (ok_move (.inl rfl))) ?_
  refine any_take 1 rfl (by first | rfl | decide +kernel) rfl (by first | (simp [HeldL]; done) | (simp only [dH]; (repeat' first | trivial | rfl | constructor))) (fun H' hH => OpOk.step (ok_move (.inl rfl))) ?_
  refine any_take 2 rfl (by first | rfl | decide +kernel) rfl (by first | (simp [HeldL]; done) | (simp only [dH]; (repeat' first | trivial | rfl | constructor))) (fun H' hH => OpOk.step (ok_nilCheck rfl rfl)) ?_
  refine any_take 3 rfl (by first | rfl | decide +kernel) rfl (by first | (simp [HeldL]; done) | (simp only [dH]; (repeat' first | trivial | rfl | constructor))) (fun H' hH => OpOk.step (ok_fieldAddr rfl ti_zdev_Dev rfl rfl ti_Lzone_Zone (by decide) rfl)) ?_
  refine any_take 4 rfl (by first | rfl | decide +kernel) rfl (by first | (simp [HeldL]; done) | (simp only [dH]; (repeat' first | trivial | rfl | constructor))) (fun H' hH => OpOk.step (ok_load rfl ti_Lzone_Zone (locA_held hH rfl) rfl)) ?_
  refine any_take 5 rfl (by first | rfl | decide +kernel) rfl (by first | (simp [HeldL]; done) | (simp only [dH]; (repeat' first | trivial | rfl | constructor))) (fun H' hH => OpOk.step (ok_move (.inl rfl))) ?_
  refine any_take 6 rfl (by first | rfl | decide +kernel) rfl (by first | (simp [HeldL]; done) | (simp only [dH]; (repeat' first | trivial | rfl | constructor))) (fun H' hH => OpOk.step (ok_move (.inl rfl))) ?_
  refine any_one 7 rfl (by first | rfl | decide +kernel) rfl rfl (ok_call rfl rfl rfl ((znew5_ok cap blk ⟨hc1, hb1⟩).plain rfl rfl)) (.inr (by first | (simp [HeldL]; done) | (simp only [dH]; (repeat' first | trivial | rfl | constructor)))) ?_
  refine any_one 8 rfl (by first | rfl | decide +kernel) rfl rfl (OpOk.step ((ok_buildSlice (n := 1) (ps := #[(0, .tmp 45)]) rfl ti_Lzone_Zone rfl ti_zone_Zone (by decide) rfl rfl (by decide) rfl rfl rfl).eq (x' := .sl 2 0 1) (H'' := [some (ZqsB (newD i cap blk lim).zs), some (DvB (newD i cap blk lim) 0), some ⟨5, true, [nz cap blk].map fun z => .agg (ZqC z)⟩]) rfl rfl)) (.inr (by first | (simp [HeldL]; done) | (simp only [dH]; (repeat' first | trivial | rfl | constructor)))) ?_
  refine any_one 9 rfl (by first | rfl | decide +kernel) rfl rfl (OpOk.step ((ok_append_map (fun z => .agg (ZqC z)) (xs := List.replicate i (nz cap blk)) (ys := [nz cap blk]) rfl ti_Lzone_Zone rfl ti_zone_Zone (by decide) (by decide) rfl ti_Lzone_Zone (by simp) rfl rfl rfl rfl rfl rfl rfl rfl (by simp [newD]) (by simp; omega)).eq (x' := .sl 3 0 (i + 1)) (H'' := [none, some (DvB (newD i cap blk lim) 0), some ⟨5, true, [nz cap blk].map fun z => .agg (ZqC z)⟩, some (ZqsB (newD (i + 1) cap blk lim).zs)]) (by simp) (by show [_, _, _, some (⟨5, true, _⟩ : Blk)] = _; rw [show List.replicate i (nz cap blk) ++ [nz cap blk] = (newD (i + 1) cap blk lim).zs from List.replicate_succ'.symm]; rfl))) (.inr (by first | (simp [HeldL]; done) | (simp only [dH]; (repeat' first | trivial | rfl | constructor)))) ?_
  refine any_take 10 rfl (by first | rfl | decide +kernel) rfl (by first | (simp [HeldL]; done) | (simp only [dH]; (repeat' first | trivial | rfl | constructor))) (fun H' hH => OpOk.step (ok_nilCheck rfl rfl)) ?_
  refine any_take 11 rfl (by first | rfl | decide +kernel) rfl (by first | (simp [HeldL]; done) | (simp only [dH]; (repeat' first | trivial | rfl | constructor))) (fun H' hH => OpOk.step (ok_fieldAddr rfl ti_zdev_Dev rfl rfl ti_Lzone_Zone (by decide) rfl)) ?_
  refine any_one 12 rfl (by first | rfl | decide +kernel) rfl rfl (OpOk.step ((ok_store rfl ti_Lzone_Zone (by decide) rfl rfl rfl rfl rfl (by first | exact Nat.le_of_ble_eq_true rfl | simp) (by first | exact .inl ⟨rfl, rfl⟩ | exact .inr rfl)).eq (x' := .any) (H'' := [none, some (DvB (newD (i + 1) cap blk lim) 3), some ⟨5, true, [nz cap blk].map fun z => .agg (ZqC z)⟩, some (ZqsB (newD (i + 1) cap blk lim).zs)]) rfl (by simp [newD, DvB]))) (.inl (by simp)) ?_
  refine any_done rfl ?_
  refine keepK hK10 [1, 2, 11, 35, 36] (by dsimp) (by dsimp) ?_
  refine T.region ?_
  refine rs rfl rfl (ok_add64 rfl ti_int rfl rfl (by omega) (by omega)) ?_
  refine rs rfl rfl (ok_move (.inl rfl)) ?_
  refine ro_nil ?_
  exact ⟨i + 1, by omega, by omega, TEnt.fin [3, 1] (by decide) srcq31 (hp2 (ZqsB_ren _ _) (DvB_ren (by decide) _)) ⟨rfl, rfl, rfl, rfl, rfl, trivial⟩⟩
 ·(try simp only [dE] at hc)
  have hin : i = n := by omega
  subst hin
  refine T.exit ?_
  refine keepK hK6 [11] (by dsimp) (by dsimp) ?_
  refine T.seq fun K11 hK11 => ?_
  refine T.region ?_
  refine rs rfl rfl (ok_move (.inl rfl)) ?_
  refine rs rfl rfl (ok_move (.inr rfl)) ?_
  refine rs rfl rfl (ok_move (.inr rfl)) ?_
  refine ro_nil ?_
  refine keepK hK11 [8, 9] (by dsimp) (by dsimp) ?_
  refine T.ret (hQ _ _ _ rfl ?_).1 -- ret 1
  exact TEnt.fin [1, 0] (by decide) srcq10 (hp2 (DvB_ren (by decide) _) (ZqsB_ren _ _)) ⟨rfl, trivial⟩
end Go.Proofs.Ytlegolcbjjjofaa.AmF
