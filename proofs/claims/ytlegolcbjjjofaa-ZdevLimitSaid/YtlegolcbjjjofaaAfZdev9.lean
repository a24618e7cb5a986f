/- The law ZdevLimit. -/
import Derived.Test.YtlegolcbjjjofaaAfZdev8
namespace Go.Proofs.Ytlegolcbjjjofaa.AmF
open Go Go.AM
set_option maxRecDepth 100000
set_option maxHeartbeats 4000000
set_option linter.unusedSimpArgs false
set_option linter.unusedVariables false
attribute [local simp] tkeep tget tput ev cav argsTM pickA normT putA splice AV.cells ints_length rowsA_length Zqs_len
theorem actN_set {q y : Zq} : ∀ {zs : List Zq} {i : Nat}, zs[i]? = some y → actN (zs.set i q) + (if actZ y = true then 1 else 0) = actN zs + (if actZ q = true then 1 else 0)
  | [], i, h => by simp at h
  | x :: zs, 0, h => by
    simp only [List.getElem?_cons_zero, Option.some.injEq] at h
    subst h
    simp only [actN, List.set_cons_zero, List.countP_cons]
    omega
  | x :: zs, i + 1, h => by
    simp only [List.getElem?_cons_succ] at h
    have := actN_set (q := q) h
    simp only [actN, List.set_cons_succ, List.countP_cons] at this ⊢
    omega
/-- What holds of a member from call to call. -/
def LimOk (L : Int) (i : Nat) (d : Dv) : Prop := d.dead = false ∧ d.lim = L ∧ d.zs.length = 6 ∧ (∀ z ∈ d.zs, z.cap = 4 ∧ z.blk = 1 ∧ z.data.length ≤ 4) ∧ 0 ≤ d.bad ∧ d.bad ≤ i ∧ (actN d.zs : Int) ≤ L
theorem Lim_cnt {L : Int} {i : Nat} {d : Dv} (h : LimOk L i d) (e : Int) : LimOk L (i + 1) (cntE d e) := by
  obtain ⟨h1, h2, h3, h4, h5, h6, h7⟩ := h
  unfold cntE
  split
  · exact ⟨h1, h2, h3, h4, by show 0 ≤ d.bad + 1; omega, by show d.bad + 1 ≤ ((i + 1 : Nat) : Int); omega, h7⟩
  · exact ⟨h1, h2, h3, h4, h5, by omega, h7⟩
theorem Lim_up {L : Int} {i : Nat} {d : Dv} (h : LimOk L i d) : LimOk L (i + 1) d := by
  obtain ⟨h1, h2, h3, h4, h5, h6, h7⟩ := h
  exact ⟨h1, h2, h3, h4, h5, by omega, h7⟩
theorem Lim_put {L : Int} {i j : Nat} {d : Dv} (h : LimOk L i d) {y q : Zq} (hy : d.zs[j]? = some y) (hq : q.cap = 4 ∧ q.blk = 1 ∧ q.data.length ≤ 4) (ha : actZ q = true → actZ y = true ∨ (actN d.zs : Int) < L) : LimOk L i { d with zs := d.zs.set j q } := by
  obtain ⟨h1, h2, h3, h4, h5, h6, h7⟩ := h
  refine ⟨h1, h2, by simpa using h3, ?_, h5, h6, ?_⟩
  · intro z hz
    rcases List.mem_or_eq_of_mem_set hz with h | h
    · exact h4 z h
    · rw [h]; exact hq
  · show (actN (d.zs.set j q) : Int) ≤ L
    have e := actN_set (q := q) hy
    by_cases hq1 : actZ q = true
    · rcases ha hq1 with h | h
      · rw [if_pos h, if_pos hq1] at e; omega
      · rw [if_pos hq1] at e; split at e <;> omega
    · rw [if_neg hq1] at e; split at e <;> omega
theorem Lim_zok {L : Int} {i : Nat} {d : Dv} (h : LimOk L i d) : ∀ z ∈ d.zs, ZqOk z ∧ z.data.length ≤ 8000000 := by
  intro z hz
  obtain ⟨a, b, c⟩ := h.2.2.2.1 z hz
  exact ⟨⟨by omega, by omega, by omega⟩, by omega⟩
theorem apZ_fits {y : Zq} {b : List Int} (h : (apZ y b).2 = 0) : FitsZ y b := by
  unfold apZ at h
  split at h
  · split at h
    · assumption
    · exact absurd h (by decide)
  · exact absurd h (by decide)
theorem wpZ_one {z : Zq} (h : z.blk = 1) : wpZ z = z.data.length := by unfold wpZ; rw [h, Int.ediv_one]
theorem Lim_app {L : Int} {i : Nat} {d : Dv} (h : LimOk L i d) (z : Int) (b : List Int) : LimOk L (i + 1) (appD d z b).1 := by
  by_cases h0 : rightD d z = 0
  · have hz0 := rightD_zero h0
    obtain ⟨y, hy⟩ : ∃ y, d.zs[z.toNat]? = some y := ⟨_, List.getElem?_eq_getElem (by omega)⟩
    by_cases h1 : (apZ y b).2 = 0
    · by_cases h2 : stopD d (apZ y b).1 y
      · rw [appD_stop h0 hy h1 h2]; exact Lim_cnt h 8
      · rw [appD_yes h0 hy h1 h2]
        obtain ⟨c1, c2, c3⟩ := h.2.2.2.1 y (List.mem_of_getElem? hy)
        have hf := (apZ_fits h1).2
        rw [wpZ_one c2, c1, c2, Int.ediv_one] at hf
        refine Lim_put (Lim_up h) hy ?_ ?_
        · rw [apZ_eq h1]; exact ⟨c1, c2, by show (y.data ++ b).length ≤ 4; rw [List.length_append]; omega⟩
        · intro hq
          by_cases hy1 : actZ y = true
          · exact .inl hy1
          · refine .inr ?_
            have hl := h.2.1
            rcases (by omega : ((actN d.zs : Nat) : Int) < L ∨ L ≤ ((actN d.zs : Nat) : Int)) with h3 | h3
            · exact h3
            · exact absurd ⟨hq, by simpa using hy1, by rw [hl]; exact h3⟩ h2
    · rw [appD_bad h0 hy h1]; exact Lim_cnt h _
  · rw [appD_no h0]; exact Lim_cnt h _
theorem Lim_chg {L : Int} {i : Nat} {d : Dv} (h : LimOk L i d) (z : Int) (q : Zq → Zq) (hq : ∀ y : Zq, y.cap = 4 ∧ y.blk = 1 ∧ y.data.length ≤ 4 → ((q y).cap = 4 ∧ (q y).blk = 1 ∧ (q y).data.length ≤ 4) ∧ actZ (q y) = false) : LimOk L (i + 1) (chgD d z q) := by
  unfold chgD
  refine Lim_cnt ?_ _
  unfold chg2
  split
  · rename_i h0
    have hz0 := rightD_zero h0
    obtain ⟨y, hy⟩ : ∃ y, d.zs[z.toNat]? = some y := ⟨_, List.getElem?_eq_getElem (by omega)⟩
    rw [chgZ_at hy]
    have hqy := hq y (h.2.2.2.1 y (List.mem_of_getElem? hy))
    exact Lim_put h hy hqy.1 (fun h' => by rw [hqy.2] at h'; cases h')
  · exact h
theorem act_reset {y : Zq} (h : y.blk = 1) : actZ (resetZ y) = false := by
  have : wpZ (resetZ y) = 0 := by rw [wpZ_one (by exact h)]; rfl
  simp [actZ, this]
theorem act_finish (y : Zq) : actZ (finishZ y) = false := rfl
theorem act_flush (y : Zq) : actZ (flushZ y) = actZ y := rfl
theorem actN_flush (zs : List Zq) : actN (zs.map flushZ) = actN zs := by
  unfold actN
  rw [List.countP_map]
  rfl
theorem Lim_flush {L : Int} {i : Nat} {d : Dv} (h : LimOk L i d) : LimOk L (i + 1) (flushD d) := by
  unfold flushD
  split
  · obtain ⟨h1, h2, h3, h4, h5, h6, h7⟩ := h
    refine ⟨h1, h2, by simpa using h3, ?_, h5, by show d.bad ≤ ((i + 1 : Nat) : Int); omega, by show (actN (d.zs.map flushZ) : Int) ≤ L; rw [actN_flush]; exact h7⟩
    intro z hz
    obtain ⟨y, hy, rfl⟩ := List.mem_map.1 hz
    exact h4 y hy
  · exact Lim_up h
/-- A call of the list. -/
def stepX (d : Dv) (a : Ax) : Dv := if a.dn = 0 then (appD d a.z a.b).1 else if a.dn = 2 then flushD d else if a.dn = 3 then chgD d a.z resetZ else if a.dn = 4 then chgD d a.z finishZ else d
theorem Lim_step {L : Int} {i : Nat} {d : Dv} (h : LimOk L i d) (a : Ax) : LimOk L (i + 1) (stepX d a) := by
  unfold stepX
  split
  · exact Lim_app h _ _
  · split
    · exact Lim_flush h
    · split
      · exact Lim_chg h _ _ (fun y hy => ⟨⟨hy.1, hy.2.1, by simp [resetZ]⟩, act_reset hy.2.1⟩)
      · split
        · exact Lim_chg h _ _ (fun y hy => ⟨⟨hy.1, hy.2.1, hy.2.2⟩, act_finish y⟩)
        · exact Lim_up h
theorem Lim_new {L : Int} (h : 1 ≤ L) : LimOk L 0 (newD 6 4 1 L) := by
  refine ⟨rfl, rfl, rfl, ?_, Int.le_refl 0, Int.le_refl 0, ?_⟩
  · intro z hz
    obtain ⟨_, rfl⟩ := List.mem_replicate.1 hz
    exact ⟨rfl, rfl, by simp [nz]⟩
  · show ((0 : Nat) : Int) ≤ L; omega
theorem zdevLimit_ok (u : Int) (hu : 0 ≤ u ∧ u < 256) (l : List Ax) (hl : l.length ≤ 140737488355328) (hs : ∀ a ∈ l, a.b.length ≤ 140737488355328) : CSpec Try.prog 3 [] [.v (.int .u8 u), .fz 5 (Axs l)] [] (.b true) := by
 refine CSpec.body Try.func3 rfl rfl rfl rfl rfl fun Q hQ => ?_
 refine T.seq fun K1 hK1 => ?_
 refine T.region ?_
 refine rs rfl rfl (ok_moveb (c := false) (.inr rfl) rfl) ?_
 refine ro_nil ?_
 refine keepK hK1 [0, 1] (by dsimp) (by dsimp) ?_
 refine T.seq fun K2 hK2 => ?_
 refine T.region ?_
 refine rs rfl rfl (ok_move (.inl rfl)) ?_
 refine rs rfl rfl ((ok_conv_int rfl ti_uint8 ti_int rfl rfl).eq (x' := .int u) (by rw [wrap_i64 (by omega) (by omega)]) rfl) ?_
 refine rs rfl rfl (ok_add64 rfl ti_int rfl rfl (by omega) (by omega)) ?_
 refine ro rfl rfl (ok_call rfl rfl rfl (newD_call (n := 6) (by decide) (by decide) (by decide) (by omega))) ?_
 refine rs rfl rfl (ok_move (.inl rfl)) ?_
 refine rs rfl rfl (ok_extract rfl rfl rfl) ?_
 refine rs rfl rfl (ok_extract rfl rfl rfl) ?_
 refine rs rfl rfl (ok_move (.inr rfl)) ?_
 refine rs rfl rfl (ok_move (.inr rfl)) ?_
 refine ro_nil ?_
 refine keepK hK2 [0, 1, 5, 6] (by dsimp) (by dsimp) ?_
 refine T.seq fun K3 hK3 => ?_
 refine T.seq fun K4 hK4 => ?_
 refine T.region ?_
 refine rs rfl rfl (ok_move (.inl rfl)) ?_
 refine ro rfl rfl (ok_call rfl rfl rfl ((much5_ok l hl hs).plain (by simp [renL, AV.ren, Axs_ren]) rfl)) ?_
 refine ro_case rfl rfl (OpOk.step (ok_moveb (.inl rfl) rfl)) (fun hb => ?_) (fun hb => ?_)
 ·(try simp only [dE] at hb)
  refine ro_skip rfl rfl ?_
  refine ro_skip rfl rfl ?_
  refine ro_skip rfl rfl ?_
  refine rs rfl rfl (ok_pickb (t := true) (d := true) rfl rfl rfl) ?_
  refine ro_nil ?_
  refine keepK hK4 [0, 1, 5, 6, 21] (by dsimp) (by dsimp) ?_
  refine T.cond_true rfl ?_
  refine T.seq fun K5 hK5 => ?_
  refine T.region ?_
  refine rs rfl rfl (ok_move (.inl rfl)) ?_
  refine ro rfl rfl (ok_call rfl rfl rfl ((code5_ok 0).plain rfl rfl)) ?_
  refine rs rfl rfl (ok_binOp rfl ti_int rfl) ?_
  refine rs rfl rfl (OpOk.bool (d := true) (ok_moveb (.inl rfl) rfl) (rfl)) ?_
  refine ro rfl rfl (ok_call rfl rfl rfl (live5_ok.plain rfl rfl)) ?_
  refine rs rfl rfl (ok_pick rfl rfl) ?_
  refine rs rfl rfl (ok_move (.inr rfl)) ?_
  refine ro_nil ?_
  refine keepK hK5 [4] (by dsimp) (by dsimp) ?_
  refine T.ret (hQ _ _ _ rfl ?_).1 -- ret 1
  exact TEnt.fin [] (by decide) (by simp) rfl ⟨rfl, trivial⟩
 ·(try simp only [dE] at hb)
  have hmu := muchX_bd (muchXv_no hb)
  refine rs rfl rfl (ok_move (.inl rfl)) ?_
  refine ro rfl rfl (ok_call rfl rfl rfl ((code5_ok 0).plain rfl rfl)) ?_
  refine rs rfl rfl (OpOk.bool (d := false) (ok_binOp rfl ti_int rfl) (rfl)) ?_
  refine rs rfl rfl (ok_pickb (t := false) (d := false) rfl rfl rfl) ?_
  refine ro_nil ?_
  refine keepK hK4 [0, 1, 5, 6, 21] (by dsimp) (by dsimp) ?_
  refine T.cond_false rfl ?_
  refine T.skip ?_
  refine keepK hK3 [0, 1, 5] (by dsimp) (by dsimp) ?_
  refine T.seq fun K6 hK6 => ?_
  refine T.seq fun K7 hK7 => ?_
  refine T.region ?_
  refine rs rfl rfl (ok_move (.inr rfl)) ?_
  refine ro_nil ?_
  refine keepK hK7 [0, 1, 5, 7] (by dsimp) (by dsimp) ?_
  refine T.block ?_
  refine T.loopI (ι := Nat × Dv) (fun p => p.1 ≤ l.length ∧ LimOk (u + 1) p.1 p.2) (fun p => l.length - p.1) (fun p => ([(0, .v (.int .u8 u)), (1, .fz 5 (Axs l)), (5, .ref 0 0 0), (7, .int p.1)], [some (DvB p.2 1), some (ZqsB p.2.zs)])) (0, newD 6 4 1 (u + 1)) ⟨Nat.zero_le _, Lim_new (by omega)⟩ (TEnt.toH rfl ⟨rfl, rfl, rfl, rfl, trivial⟩) (fun i hi => ?_) -- loop 1
  obtain ⟨i, d⟩ := i
  obtain ⟨hil, hd⟩ := hi
  simp only at hil hd
  have hzk := Lim_zok hd
  have hdl := hd.2.2.1
  have hdb : 0 ≤ d.bad ∧ d.bad ≤ 1000000 := ⟨hd.2.2.2.2.1, by have := hd.2.2.2.2.2.1; omega⟩
  refine T.seq fun K8 hK8 => ?_
  refine T.seq fun K9 hK9 => ?_
  refine T.region ?_
  refine rs rfl rfl (ok_move (.inl rfl)) ?_
  refine rs rfl rfl (ok_move (.inl rfl)) ?_
  refine rs rfl rfl (ok_len' rfl rfl ti_Lrevetmentlaw05_Act rfl (Axs_len l)) ?_
  refine rs rfl rfl (ok_binOp rfl ti_int rfl) ?_
  refine ro_nil ?_
  refine keepK hK9 [0, 1, 5, 7, 31] (by dsimp) (by dsimp) ?_
  refine T.cond rfl (fun hc => ?_) (fun hc => ?_) -- cond 1
  ·(try simp only [dE] at hc)
   obtain ⟨a, ha⟩ : ∃ a, l[i]? = some a := ⟨_, List.getElem?_eq_getElem (by omega)⟩
   have hab := sizeX_one (List.mem_of_getElem? ha)
   have hst := Lim_step hd a
   refine T.skip ?_
   refine keepK hK8 [0, 1, 5, 7] (by dsimp) (by dsimp) ?_
   refine T.seq fun K10 hK10 => ?_
   refine T.block ?_
   refine T.seq fun K11 hK11 => ?_
   refine T.seq fun K12 hK12 => ?_
   refine T.region ?_
   refine rs rfl rfl (ok_move (.inl rfl)) ?_
   refine rs rfl rfl (ok_move (.inl rfl)) ?_
   refine rs rfl rfl (by exact ok_index_fz rfl ti_Lrevetmentlaw05_Act rfl ti_revetmentlaw05_Act rfl rfl rfl (by omega) (Axs_get ha) rfl) ?_
   refine rs rfl rfl (ok_fieldAddr rfl ti_revetmentlaw05_Act rfl rfl ti_int (by decide) rfl) ?_
   refine rs rfl rfl (ok_load rfl ti_int rfl rfl) ?_
   refine ro_nil ?_
   refine keepK hK12 [0, 1, 5, 7, 38] (by dsimp) (by dsimp) ?_
   refine T.block ?_
   refine T.seq fun K13 hK13 => ?_
   refine T.region ?_
   refine rs rfl rfl (ok_binOp rfl ti_int rfl) ?_
   refine rs rfl rfl (ok_move (.inr rfl)) ?_
   refine ro_nil ?_
   refine keepK hK13 [0, 1, 5, 7, 38, 39] (by dsimp) (by dsimp) ?_
   refine T.join hK11 [(0, .v (.int .u8 u)), (1, .fz 5 (Axs l)), (5, .ref 0 0 0), (7, .int i)] [some (DvB (stepX d a) 1), some (ZqsB (stepX d a).zs)] (fun hJ14 => ?_) ?_ -- join 1
   · -- the two ways
    refine T.cond rfl (fun hc => ?_) (fun hc => ?_) -- cond 2
    ·(try simp only [dE] at hc)
     refine T.drawH mixed [11] ?_
     refine any_take 0 rfl (by first | rfl | decide +kernel) rfl (HeldL.refl _) (fun H' hH => OpOk.step (ok_move (.inl rfl))) ?_
     refine any_take 1 rfl (by first | rfl | decide +kernel) rfl (HeldL.refl _) (fun H' hH => OpOk.step (ok_move (.inl rfl))) ?_
     refine any_take 2 rfl (by first | rfl | decide +kernel) rfl (HeldL.refl _) (fun H' hH => OpOk.step (ok_move (.inl rfl))) ?_
     refine any_take 3 rfl (by first | rfl | decide +kernel) rfl (HeldL.refl _) (fun H' hH => OpOk.step (by exact ok_index_fz rfl ti_Lrevetmentlaw05_Act rfl ti_revetmentlaw05_Act rfl rfl rfl (by omega) (Axs_get ha) rfl)) ?_
     refine any_take 4 rfl (by first | rfl | decide +kernel) rfl (HeldL.refl _) (fun H' hH => OpOk.step (ok_fieldAddr rfl ti_revetmentlaw05_Act rfl rfl ti_int (by decide) rfl)) ?_
     refine any_take 5 rfl (by first | rfl | decide +kernel) rfl (HeldL.refl _) (fun H' hH => OpOk.step (ok_load rfl ti_int (locA_held hH rfl) rfl)) ?_
     refine any_take 6 rfl (by first | rfl | decide +kernel) rfl (HeldL.refl _) (fun H' hH => OpOk.step (ok_move (.inl rfl))) ?_
     refine any_take 7 rfl (by first | rfl | decide +kernel) rfl (HeldL.refl _) (fun H' hH => OpOk.step (ok_move (.inl rfl))) ?_
     refine any_take 8 rfl (by first | rfl | decide +kernel) rfl (HeldL.refl _) (fun H' hH => OpOk.step (by exact ok_index_fz rfl ti_Lrevetmentlaw05_Act rfl ti_revetmentlaw05_Act rfl rfl rfl (by omega) (Axs_get ha) rfl)) ?_
     refine any_take 9 rfl (by first | rfl | decide +kernel) rfl (HeldL.refl _) (fun H' hH => OpOk.step (ok_fieldAddr rfl ti_revetmentlaw05_Act rfl rfl ti_Luint8 (by decide) rfl)) ?_
     refine any_take 10 rfl (by first | rfl | decide +kernel) rfl (HeldL.refl _) (fun H' hH => OpOk.step (ok_load rfl ti_Luint8 (locA_held hH rfl) rfl)) ?_
     refine any_one 11 rfl (by first | rfl | decide +kernel) rfl rfl (ok_call rfl rfl rfl (dv_call (zdapp_ok d a.z a.b hzk (by omega) (by omega) hdb) (by simp [renL, AV.ren, renL_ints]; rfl) (fun _ => rfl))) (.inl (by simp)) ?_
     refine any_done rfl ?_
     exact hJ14 _ _ (TEnt.toH (by unfold stepX; simp only [*]; rfl) ⟨rfl, rfl, rfl, rfl, trivial⟩)
    ·(try simp only [dE] at hc)
     refine T.seq fun K15 hK15 => ?_
     refine T.region ?_
     refine rs rfl rfl (ok_binOp rfl ti_int rfl) ?_
     refine rs rfl rfl (ok_move (.inr rfl)) ?_
     refine ro_nil ?_
     refine keepK hK15 [0, 1, 5, 7, 38, 53] (by dsimp) (by dsimp) ?_
     refine T.cond rfl (fun hc => ?_) (fun hc => ?_) -- cond 3
     ·(try simp only [dE] at hc)
      refine T.region ?_
      refine rs rfl rfl (ok_move (.inl rfl)) ?_
      refine ro rfl rfl (ok_call rfl rfl rfl (dv_call (zdflush_ok d (fun z hz => (hzk z hz).1) (by omega)) rfl (fun _ => rfl))) ?_
      refine ro_nil ?_
      exact hJ14 _ _ (TEnt.toH (by unfold stepX; simp only [*]; rfl) ⟨rfl, rfl, rfl, rfl, trivial⟩)
     ·(try simp only [dE] at hc)
      refine T.seq fun K16 hK16 => ?_
      refine T.region ?_
      refine rs rfl rfl (ok_binOp rfl ti_int rfl) ?_
      refine rs rfl rfl (ok_move (.inr rfl)) ?_
      refine ro_nil ?_
      refine keepK hK16 [0, 1, 5, 7, 38, 57] (by dsimp) (by dsimp) ?_
      refine T.cond rfl (fun hc => ?_) (fun hc => ?_) -- cond 4
      ·(try simp only [dE] at hc)
       refine T.region ?_
       refine rs rfl rfl (ok_move (.inl rfl)) ?_
       refine rs rfl rfl (ok_move (.inl rfl)) ?_
       refine rs rfl rfl (ok_move (.inl rfl)) ?_
       refine rs rfl rfl (by exact ok_index_fz rfl ti_Lrevetmentlaw05_Act rfl ti_revetmentlaw05_Act rfl rfl rfl (by omega) (Axs_get ha) rfl) ?_
       refine rs rfl rfl (ok_fieldAddr rfl ti_revetmentlaw05_Act rfl rfl ti_int (by decide) rfl) ?_
       refine rs rfl rfl (ok_load rfl ti_int rfl rfl) ?_
       refine ro rfl rfl (ok_call rfl rfl rfl (dv_call (zdreset_ok d a.z (fun z hz => (hzk z hz).1) hdb) rfl (fun _ => rfl))) ?_
       refine ro_nil ?_
       exact hJ14 _ _ (TEnt.toH (by unfold stepX; simp only [*]; rfl) ⟨rfl, rfl, rfl, rfl, trivial⟩)
      ·(try simp only [dE] at hc)
       refine T.seq fun K17 hK17 => ?_
       refine T.region ?_
       refine rs rfl rfl (ok_binOp rfl ti_int rfl) ?_
       refine rs rfl rfl (ok_move (.inr rfl)) ?_
       refine ro_nil ?_
       refine keepK hK17 [0, 1, 5, 7, 66] (by dsimp) (by dsimp) ?_
       refine T.cond rfl (fun hc => ?_) (fun hc => ?_) -- cond 5
       ·(try simp only [dE] at hc)
        refine T.region ?_
        refine rs rfl rfl (ok_move (.inl rfl)) ?_
        refine rs rfl rfl (ok_move (.inl rfl)) ?_
        refine rs rfl rfl (ok_move (.inl rfl)) ?_
        refine rs rfl rfl (by exact ok_index_fz rfl ti_Lrevetmentlaw05_Act rfl ti_revetmentlaw05_Act rfl rfl rfl (by omega) (Axs_get ha) rfl) ?_
        refine rs rfl rfl (ok_fieldAddr rfl ti_revetmentlaw05_Act rfl rfl ti_int (by decide) rfl) ?_
        refine rs rfl rfl (ok_load rfl ti_int rfl rfl) ?_
        refine ro rfl rfl (ok_call rfl rfl rfl (dv_call (zdfinish_ok d a.z (fun z hz => (hzk z hz).1) hdb) rfl (fun _ => rfl))) ?_
        refine ro_nil ?_
        exact hJ14 _ _ (TEnt.toH (by unfold stepX; simp only [*]; rfl) ⟨rfl, rfl, rfl, rfl, trivial⟩)
       ·(try simp only [dE] at hc)
        refine T.skip ?_
        exact hJ14 _ _ (TEnt.toH (by unfold stepX; simp only [*]; rfl) ⟨rfl, rfl, rfl, rfl, trivial⟩)
   refine T.seq fun K18 hK18 => ?_
   refine T.region ?_
   refine rs rfl rfl (ok_move (.inl rfl)) ?_
   refine ro rfl rfl (ok_call rfl rfl rfl (dv_call (active_ok (stepX d a) (fun z hz => (Lim_zok hst z hz).1) (by have := hst.2.2.1; omega) hst.1) rfl (fun _ => rfl))) ?_
   refine rs rfl rfl (ok_move (.inl rfl)) ?_
   refine rs rfl rfl ((ok_conv_int rfl ti_uint8 ti_int rfl rfl).eq (x' := .int u) (by rw [wrap_i64 (by omega) (by omega)]) rfl) ?_
   refine rs rfl rfl (ok_add64 rfl ti_int rfl rfl (by omega) (by omega)) ?_
   refine rs rfl rfl (ok_binOp rfl ti_int rfl) ?_
   refine ro_nil ?_
   refine keepK hK18 [0, 1, 5, 7, 80] (by dsimp) (by dsimp) ?_
   refine T.cond rfl (fun hc => ?_) (fun hc => ?_) -- cond 6
   ·(try simp only [dE] at hc)
    exfalso; have h := hst.2.2.2.2.2.2; omega
   ·(try simp only [dE] at hc)
    refine T.skip ?_
    refine keepK hK10 [0, 1, 5, 7] (by dsimp) (by dsimp) ?_
    refine T.region ?_
    refine rs rfl rfl (ok_move (.inl rfl)) ?_
    refine rs rfl rfl (ok_add64 rfl ti_int rfl rfl (by omega) (by omega)) ?_
    refine rs rfl rfl (ok_move (.inr rfl)) ?_
    refine ro_nil ?_
    exact ⟨(i + 1, stepX d a), ⟨by omega, hst⟩, by simp only; omega, TEnt.toH rfl ⟨rfl, rfl, rfl, rfl, trivial⟩⟩
  ·(try simp only [dE] at hc)
   refine T.exit ?_
   refine keepK hK6 [] (by dsimp) (by dsimp) ?_
   refine T.seq fun K19 hK19 => ?_
   refine T.region ?_
   refine ro rfl rfl (ok_call rfl rfl rfl (live5_ok.plain rfl rfl)) ?_
   refine rs rfl rfl (ok_move (.inr rfl)) ?_
   refine ro_nil ?_
   refine keepK hK19 [4] (by dsimp) (by dsimp) ?_
   refine T.ret (hQ _ _ _ rfl ?_).1 -- ret 2
   exact TEnt.fin [] (by decide) (by simp) rfl ⟨rfl, trivial⟩
def axOf (x : Int × Int × List Int × Int × Int) : Ax := ⟨x.1, x.2.1, x.2.2.1, x.2.2.2.1, x.2.2.2.2⟩
theorem zdevLimit_row (u : Int) (hu : 0 ≤ u ∧ u < 256) (l : List (Int × Int × List Int × Int × Int)) (hl : l.length ≤ 140737488355328) (hs : ∀ x ∈ l, x.2.2.1.length ≤ 140737488355328) : CSpec Try.prog 3 [] [.v (.int .u8 u), .fz 5 (l.map fun x => .agg (AxC (axOf x)))] [] (.b true) := by
  have e : (l.map fun x => AV.agg (AxC (axOf x))) = Axs (l.map axOf) := by simp [Axs]
  rw [e]
  refine zdevLimit_ok u hu (l.map axOf) (by simpa using hl) ?_
  intro x hx
  obtain ⟨y, hy, rfl⟩ := List.mem_map.1 hx
  exact hs y hy
end Go.Proofs.Ytlegolcbjjjofaa.AmF
