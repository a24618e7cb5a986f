/- Walks over the abstract machine: records of the log, as bytes. -/
import Derived.Test.YteonkbgfpocplaaAfBase
import Derived.Test.YteonkbgfpocplaaAfCrcb
namespace Go.Proofs.Yteonkbgfpocplaa.AmF
open Go Go.AM
set_option maxRecDepth 100000
set_option linter.unusedSimpArgs false
set_option linter.unusedVariables false
attribute [local simp] tkeep tget tput ev cav argsTM pickA normT putA splice AV.cells ints_length rowsA_length enc_len
/-- Filled up to a multiple. -/
def padL (l : List Int) (u : Nat) : List Int := l ++ List.replicate ((u - l.length % u) % u) 0
theorem mod_add_lt {n u i : Nat} (h : n % u + i < u) : (n + i) % u = n % u + i := by
  rw [Nat.add_mod, Nat.mod_eq_of_lt (a := i) (by omega), Nat.mod_eq_of_lt h]
theorem mod_add_eq {n u i : Nat} (h : n % u + i = u) (hi : i < u) : (n + i) % u = 0 := by
  rw [Nat.add_mod, Nat.mod_eq_of_lt hi, h, Nat.mod_self]
theorem pad_none {l : List Int} {u : Nat} (h : l.length % u = 0) : padL l u = l := by simp [padL, h]
theorem pad_some {l : List Int} {u : Nat} (hu : 0 < u) (h : 0 < l.length % u) : padL l u = l ++ List.replicate (u - l.length % u) 0 := by
  have := Nat.mod_lt l.length hu
  unfold padL
  rw [Nat.mod_eq_of_lt (a := u - l.length % u) (by omega)]
theorem pad_new (l : List Int) (u : Nat) (hu : 1 ≤ u ∧ u ≤ 65536) (hl : l.length ≤ 100000000) : CSpec Try.prog 44 [] [.fz 1 (ints .u8 l), .int u] [some ⟨1, true, ints .u8 (padL l u)⟩] (.sl 0 0 (padL l u).length) := by
  obtain ⟨o, ho⟩ : ∃ o, l.length % u = o := ⟨_, rfl⟩
  have hou : o < u := ho ▸ Nat.mod_lt _ (by omega)
  refine CSpec.body Try.func44 rfl rfl rfl rfl rfl fun Q hQ => ?_
  refine T.seq fun K1 hK1 => ?_
  refine T.region ?_ -- region 0
  refine ro rfl rfl (OpOk.step (ok_move (.inr rfl))) ?_
  refine ro_nil ?_
  refine keepK hK1 [0, 1] (by dsimp) (by dsimp) ?_
  refine T.seq fun K2 hK2 => ?_
  refine T.region ?_ -- region 1
  refine ro rfl rfl (OpOk.step (ok_move (.inl rfl))) ?_
  refine ro rfl rfl (OpOk.step ((ok_max rfl rfl rfl).eq (x' := .int u) (congrArg AV.int (by omega)) rfl)) ?_
  refine ro rfl rfl (OpOk.step ((ok_min rfl rfl rfl).eq (x' := .int u) (congrArg AV.int (by omega)) rfl)) ?_
  refine ro rfl rfl (OpOk.step (ok_move (.inr rfl))) ?_
  refine ro_nil ?_
  refine keepK hK2 [0, 1] (by dsimp) (by dsimp) ?_
  refine T.seq fun K3 hK3 => ?_
  refine T.region ?_ -- region 2
  refine ro rfl rfl (OpOk.step (ok_move (.inl rfl))) ?_
  refine ro rfl rfl (ok_call rfl rfl rfl ((clone_new l (by omega)).fresh (x' := .sl 0 0 l.length) (H' := [some ⟨1, true, ints .u8 l⟩]) (by simp [renL, AV.ren, renL_ints]) rfl (by simp [renH, Blk.ren, renL_ints]))) ?_
  refine ro rfl rfl (OpOk.step (ok_move (.inr rfl))) ?_
  refine ro_nil ?_
  refine keepK hK3 [1, 5] (by dsimp) (by dsimp) ?_
  refine T.seq fun K4 hK4 => ?_
  refine T.seq fun K5 hK5 => ?_
  refine T.region ?_ -- region 3
  refine ro rfl rfl (OpOk.step (ok_move (.inl rfl))) ?_
  refine ro rfl rfl (OpOk.step (ok_len' rfl rfl ti_Luint8 rfl (by first | exact ints_length _ _ | exact rowsA_length _ _ | rfl))) ?_
  refine ro rfl rfl (OpOk.step (ok_move (.inl rfl))) ?_
  refine ro rfl rfl (OpOk.step ((ok_rem64 rfl ti_int rfl rfl (by omega) (by omega)).eq (x' := .int o) (congrArg AV.int (by rw [← ho]; simp)) rfl)) ?_
  refine ro rfl rfl (OpOk.step (ok_move (.inr rfl))) ?_
  refine ro_nil ?_
  refine keepK hK5 [1, 5, 6] (by dsimp) (by dsimp) ?_
  refine T.seq fun K6 hK6 => ?_
  refine T.region ?_ -- region 4
  refine ro rfl rfl (OpOk.step (ok_move (.inl rfl))) ?_
  refine ro rfl rfl (OpOk.step (ok_binOp rfl ti_int rfl)) ?_
  refine ro_nil ?_
  refine keepK hK6 [1, 5, 6, 17] (by dsimp) (by dsimp) ?_
  refine T.cond rfl (fun hc => ?_) (fun hc => ?_) -- cond 1
  · (try simp only [decide_eq_true_eq, decide_eq_false_iff_not, beq_iff_eq, beq_eq_false_iff_ne, bne_iff_ne, bne_eq_false_iff_eq, ne_eq, Bool.not_eq_true', Bool.not_eq_false'] at hc)
    have hp := pad_some (l := l) (u := u) (by omega) (by omega)
    rw [ho] at hp
    rw [hp] at hQ
    refine T.region ?_ -- region 5
    refine ro rfl rfl (OpOk.step (ok_move (.inl rfl))) ?_
    refine ro rfl rfl (OpOk.step (ok_move (.inl rfl))) ?_
    refine ro rfl rfl (OpOk.step (ok_move (.inl rfl))) ?_
    refine ro rfl rfl (OpOk.step ((ok_sub64 rfl ti_int rfl rfl (by omega) (by omega)).eq (x' := .int (u - o : Nat)) (congrArg AV.int (by omega)) rfl)) ?_
    refine ro rfl rfl (OpOk.step (by exact ok_append_zeros rfl ti_Luint8 rfl ti_uint8 (by decide) (by decide) rfl ti_int rfl rfl rfl rfl rfl rfl (by simp) (by simp; omega))) ?_
    refine ro rfl rfl (OpOk.step (ok_move (.inr rfl))) ?_
    refine ro_nil ?_
    refine keepK hK4 [5] (by dsimp) (by dsimp) ?_
    refine T.seq fun K7 hK7 => ?_
    refine T.region ?_ -- region 6
    refine ro rfl rfl (OpOk.step (ok_move (.inl rfl))) ?_
    refine ro rfl rfl (OpOk.step (ok_move (.inr rfl))) ?_
    refine ro_nil ?_
    refine keepK hK7 [4] (by dsimp) (by dsimp) ?_
    refine T.ret (hQ _ _ _ rfl ?_).1 -- ret 1
    exact TEnt.fin [1] (by decide) (by simp) (by simp [normH, hget, Blk.ren, renL_ints, renL_map, ints, AV.ren]) ⟨by simp [tupA, AV.ren]; rfl, trivial⟩
  · (try simp only [decide_eq_true_eq, decide_eq_false_iff_not, beq_iff_eq, beq_eq_false_iff_ne, bne_iff_ne, bne_eq_false_iff_eq, ne_eq, Bool.not_eq_true', Bool.not_eq_false'] at hc)
    rw [pad_none (by omega)] at hQ
    refine T.skip ?_
    refine keepK hK4 [5] (by dsimp) (by dsimp) ?_
    refine T.seq fun K8 hK8 => ?_
    refine T.region ?_ -- region 6
    refine ro rfl rfl (OpOk.step (ok_move (.inl rfl))) ?_
    refine ro rfl rfl (OpOk.step (ok_move (.inr rfl))) ?_
    refine ro_nil ?_
    refine keepK hK8 [4] (by dsimp) (by dsimp) ?_
    refine T.ret (hQ _ _ _ rfl ?_).1 -- ret 2
    exact TEnt.fin [0] (by decide) (by simp) (by simp [normH, hget, Blk.ren, renL_ints]) ⟨rfl, trivial⟩
theorem rpad_new (l : List Int) (u : Nat) (hu : 1 ≤ u ∧ u ≤ 65536) (hl : l.length ≤ 100000000) : CSpec Try.prog 29 [] [.fz 1 (ints .u8 l), .int u] [some ⟨1, true, ints .u8 (padL l u)⟩] (.sl 0 0 (padL l u).length) := by
  obtain ⟨z, hz⟩ : ∃ z, (u - l.length % u) % u = z := ⟨_, rfl⟩
  have hou : l.length % u < u := Nat.mod_lt _ (by omega)
  have hzu : z < u := hz ▸ Nat.mod_lt _ (by omega)
  have hz0 : l.length % u = 0 ∧ z = 0 ∨ 0 < l.length % u ∧ z = u - l.length % u := by
    rcases Nat.eq_zero_or_pos (l.length % u) with h | h
    · left; rw [h] at hz; simp at hz; exact ⟨h, hz.symm⟩
    · right; rw [Nat.mod_eq_of_lt (a := u - l.length % u) (by omega)] at hz; exact ⟨h, hz.symm⟩
  have hpad : padL l u = l ++ List.replicate z 0 := by unfold padL; rw [hz]
  rw [hpad]
  refine CSpec.body Try.func29 rfl rfl rfl rfl rfl fun Q hQ => ?_
  refine T.seq fun K1 hK1 => ?_
  refine T.region ?_ -- region 0
  refine ro rfl rfl (OpOk.step (ok_move (.inr rfl))) ?_
  refine ro_nil ?_
  refine keepK hK1 [0, 1] (by dsimp) (by dsimp) ?_
  refine T.seq fun K2 hK2 => ?_
  refine T.seq fun K3 hK3 => ?_
  refine T.region ?_ -- region 1
  refine ro rfl rfl (OpOk.step (ok_move (.inl rfl))) ?_
  refine ro rfl rfl (OpOk.step (OpOk.bool (d := false) (ok_binOp rfl ti_int rfl) (by simp; omega))) ?_
  refine ro_nil ?_
  refine keepK hK3 [0, 1, 7] (by dsimp) (by dsimp) ?_
  refine T.cond_false rfl ?_
  refine T.skip ?_
  refine keepK hK2 [0, 1] (by dsimp) (by dsimp) ?_
  refine T.seq fun K4 hK4 => ?_
  refine T.seq fun K5 hK5 => ?_
  refine T.region ?_ -- region 3
  refine ro rfl rfl (OpOk.step (ok_move (.inl rfl))) ?_
  refine ro rfl rfl (OpOk.step (OpOk.bool (d := false) (ok_binOp rfl ti_int rfl) (by simp; omega))) ?_
  refine ro_nil ?_
  refine keepK hK5 [0, 1, 9] (by dsimp) (by dsimp) ?_
  refine T.cond_false rfl ?_
  refine T.skip ?_
  refine keepK hK4 [0, 1] (by dsimp) (by dsimp) ?_
  refine T.seq fun K6 hK6 => ?_
  refine T.region ?_ -- region 5
  refine ro rfl rfl (OpOk.step (ok_buildSlice (n := 0) (ps := #[]) rfl ti_Luint8 rfl ti_uint8 (by decide) rfl rfl (by decide) rfl rfl rfl)) ?_
  refine ro rfl rfl (OpOk.step (ok_move (.inl rfl))) ?_
  refine ro rfl rfl (OpOk.step (by exact ok_append_ints (k := .u8) (xs := []) (ys := l) rfl ti_Luint8 rfl ti_uint8 rfl (by decide) rfl ti_Luint8 (by simp) rfl rfl rfl rfl rfl rfl rfl rfl rfl (by simp; omega))) ?_
  refine ro rfl rfl (OpOk.step (ok_move (.inr rfl))) ?_
  refine ro_nil ?_
  refine keepK hK6 [1, 5] (by dsimp) (by dsimp) ?_
  refine T.seq fun K7 hK7 => ?_
  refine T.block ?_
  refine T.loopI (ι := Nat) (fun i => i ≤ z) (fun i => z - i) (fun i => ([(1, .int u), (5, .sl 0 0 (l ++ List.replicate i 0).length)], [some ⟨1, true, ints .u8 (l ++ List.replicate i 0)⟩])) 0 (Nat.zero_le _) (TEnt.fin [1] (by decide) (by simp) (by simp [normH, hget, Blk.ren, renL_ints]) ⟨rfl, by simp [AV.ren]; rfl, trivial⟩) (fun i hi => ?_) -- loop 1
  have hcast : ((l.length : Int) + (i : Int)) % (u : Int) = (((l.length + i) % u : Nat) : Int) := by simp
  refine T.seq fun K8 hK8 => ?_
  refine T.seq fun K9 hK9 => ?_
  refine T.region ?_ -- region 6
  refine ro rfl rfl (OpOk.step (ok_move (.inl rfl))) ?_
  refine ro rfl rfl (OpOk.step (ok_len' rfl rfl ti_Luint8 rfl (by first | exact ints_length _ _ | exact rowsA_length _ _ | rfl))) ?_
  refine ro rfl rfl (OpOk.step (ok_move (.inl rfl))) ?_
  refine ro rfl rfl (OpOk.step ((ok_rem64 rfl ti_int rfl rfl (by omega) (by omega)).eq (x' := .int ((l.length + i) % u : Nat)) (congrArg AV.int (by simp)) rfl)) ?_
  refine ro rfl rfl (OpOk.step (ok_binOp rfl ti_int rfl)) ?_
  refine ro_nil ?_
  refine keepK hK9 [1, 5, 17] (by dsimp) (by dsimp) ?_
  refine T.cond rfl (fun hc => ?_) (fun hc => ?_) -- cond 1
  · (try simp only [decide_eq_true_eq, decide_eq_false_iff_not, beq_iff_eq, beq_eq_false_iff_ne, bne_iff_ne, bne_eq_false_iff_eq, ne_eq, Bool.not_eq_true', Bool.not_eq_false'] at hc)
    have hiz : i < z := by
      rcases Nat.lt_or_ge i z with h | h
      · exact h
      · exfalso
        obtain rfl : i = z := by omega
        have hm : (l.length + i) % u = 0 := by
          rcases hz0 with ⟨h1, h2⟩ | ⟨h1, h2⟩
          · rw [h2, Nat.add_zero]; exact h1
          · exact mod_add_eq (by omega) hzu
        rw [hcast, hm] at hc
        exact hc rfl
    refine T.skip ?_
    refine keepK hK8 [1, 5] (by dsimp) (by dsimp) ?_
    refine T.block ?_
    refine T.region ?_ -- region 7
    refine ro rfl rfl (OpOk.step (ok_move (.inl rfl))) ?_
    refine ro rfl rfl (OpOk.step (ok_buildSlice (n := 1) (ps := #[(0, .const (.int .u8 (0)))]) rfl ti_Luint8 rfl ti_uint8 (by decide) rfl rfl (by decide) rfl rfl rfl)) ?_
    refine ro rfl rfl (OpOk.step (by exact ok_append_ints (k := .u8) (xs := l ++ List.replicate i 0) (ys := [0]) rfl ti_Luint8 rfl ti_uint8 rfl (by decide) rfl ti_Luint8 (by simp) rfl rfl rfl rfl rfl rfl rfl rfl rfl (by simp; omega))) ?_
    refine ro rfl rfl (OpOk.step (ok_move (.inr rfl))) ?_
    refine ro_nil ?_
    exact ⟨i + 1, by omega, by omega, TEnt.fin [2] (by decide) (by simp) (by simp [normH, hget, Blk.ren, renL_ints, List.replicate_succ']) ⟨rfl, by simp [AV.ren, List.replicate_succ']; rfl, trivial⟩⟩
  · (try simp only [decide_eq_true_eq, decide_eq_false_iff_not, beq_iff_eq, beq_eq_false_iff_ne, bne_iff_ne, bne_eq_false_iff_eq, ne_eq, Bool.not_eq_true', Bool.not_eq_false'] at hc)
    rw [hcast] at hc
    have hiz : i = z := by
      rcases Nat.lt_or_ge i z with h | h
      · exfalso
        rcases hz0 with ⟨h1, h2⟩ | ⟨h1, h2⟩
        · omega
        · have := mod_add_lt (n := l.length) (u := u) (i := i) (by omega)
          omega
      · omega
    subst hiz
    refine T.exit ?_
    refine keepK hK7 [5] (by dsimp) (by dsimp) ?_
    refine T.seq fun K10 hK10 => ?_
    refine T.region ?_ -- region 8
    refine ro rfl rfl (OpOk.step (ok_move (.inl rfl))) ?_
    refine ro rfl rfl (OpOk.step (ok_move (.inr rfl))) ?_
    refine ro_nil ?_
    refine keepK hK10 [4] (by dsimp) (by dsimp) ?_
    refine T.ret (hQ _ _ _ rfl ?_).1 -- ret 1
    exact TEnt.fin [0] (by decide) (by simp) (by simp [normH, hget, Blk.ren, renL_ints]) ⟨rfl, trivial⟩
/-- A record. -/
structure Rc where
  kind : Int
  epoch : Int
  seq : Int
  zone : Int
  gen : Int
  slot : Int
  w : Int
  member : Int
  status : Int
  body : List Int
def Rc.l (x : Rc) : List Int := [x.kind, x.epoch, x.seq, x.zone, x.gen, x.slot, x.w, x.member, x.status]
def Rc.seven (x : Rc) : List Int := [x.epoch, x.seq, x.zone, x.gen, x.w, x.member, x.status]
def RcC (x : Rc) : List AV := [.int x.kind, .int x.epoch, .int x.seq, .int x.zone, .int x.gen, .int x.slot, .int x.w, .int x.member, .int x.status, .fz 1 (ints .u8 x.body)]
def RcB (x : Rc) : Blk := ⟨10, true, [.agg (RcC x)]⟩
theorem RcC_ren (ρ : Nat → Option Nat) (x : Rc) : renL ρ (RcC x) = RcC x := by simp [RcC, renL, AV.ren, renL_ints]
theorem RcB_ren (ρ : Nat → Option Nat) (x : Rc) : Blk.ren ρ (RcB x) = RcB x := by simp [RcB, Blk.ren, renL, AV.ren, RcC_ren]
def RNB (k : Nat) : Blk := ⟨1, true, [.ref k 0 1, .ref k 0 2, .ref k 0 3, .ref k 0 4, .ref k 0 6, .ref k 0 7, .ref k 0 8]⟩
def fidx (i : Nat) : Nat := if i < 4 then i + 1 else i + 2
theorem RNB_get {k i : Nat} (h : i < 7) : (RNB k).els[i]? = some (.ref k 0 (fidx i)) := by
  match i, h with
  | 0, _ | 1, _ | 2, _ | 3, _ | 4, _ | 5, _ | 6, _ => rfl
theorem seven_get {x : Rc} {i : Nat} {v : Int} (h : x.seven[i]? = some v) : (RcC x)[fidx i]? = some (.int v) := by
  have hi : i < 7 := (List.getElem?_eq_some_iff.1 h).1
  match i, hi with
  | 0, _ | 1, _ | 2, _ | 3, _ | 4, _ | 5, _ | 6, _ => simp [Rc.seven] at h; subst h; rfl
theorem rnum_new (x : Rc) : CSpec Try.prog 47 [RcB x] [.ref 0 0 0] [some (RcB x), some (RNB 0)] (.sl 1 0 7) := by
  refine CSpec.body Try.func47 rfl rfl rfl rfl rfl fun Q hQ => ?_
  refine T.seq fun K1 hK1 => ?_
  refine T.region ?_ -- region 0
  refine ro rfl rfl (OpOk.step (ok_move (.inr rfl))) ?_
  refine ro_nil ?_
  refine keepK hK1 [0] (by dsimp) (by dsimp) ?_
  refine T.seq fun K2 hK2 => ?_
  refine T.drawH mixed [] ?_ -- region 1
  refine any_take 0 rfl (by first | rfl | decide +kernel) rfl (HeldL.refl _) (fun H' hH => OpOk.step (ok_move (.inl rfl))) ?_
  refine any_take 1 rfl (by first | rfl | decide +kernel) rfl (HeldL.refl _) (fun H' hH => OpOk.step (ok_nilCheck rfl rfl)) ?_
  refine any_take 2 rfl (by first | rfl | decide +kernel) rfl (HeldL.refl _) (fun H' hH => OpOk.step (ok_fieldAddr rfl ti_api_Rec rfl rfl ti_int (by decide) rfl)) ?_
  refine any_take 3 rfl (by first | rfl | decide +kernel) rfl (HeldL.refl _) (fun H' hH => OpOk.step (ok_move (.inl rfl))) ?_
  refine any_take 4 rfl (by first | rfl | decide +kernel) rfl (HeldL.refl _) (fun H' hH => OpOk.step (ok_nilCheck rfl rfl)) ?_
  refine any_take 5 rfl (by first | rfl | decide +kernel) rfl (HeldL.refl _) (fun H' hH => OpOk.step (ok_fieldAddr rfl ti_api_Rec rfl rfl ti_int (by decide) rfl)) ?_
  refine any_take 6 rfl (by first | rfl | decide +kernel) rfl (HeldL.refl _) (fun H' hH => OpOk.step (ok_move (.inl rfl))) ?_
  refine any_take 7 rfl (by first | rfl | decide +kernel) rfl (HeldL.refl _) (fun H' hH => OpOk.step (ok_nilCheck rfl rfl)) ?_
  refine any_take 8 rfl (by first | rfl | decide +kernel) rfl (HeldL.refl _) (fun H' hH => OpOk.step (ok_fieldAddr rfl ti_api_Rec rfl rfl ti_int (by decide) rfl)) ?_
  refine any_take 9 rfl (by first | rfl | decide +kernel) rfl (HeldL.refl _) (fun H' hH => OpOk.step (ok_move (.inl rfl))) ?_
  refine any_take 10 rfl (by first | rfl | decide +kernel) rfl (HeldL.refl _) (fun H' hH => OpOk.step (ok_nilCheck rfl rfl)) ?_
  refine any_take 11 rfl (by first | rfl | decide +kernel) rfl (HeldL.refl _) (fun H' hH => OpOk.step (ok_fieldAddr rfl ti_api_Rec rfl rfl ti_int (by decide) rfl)) ?_
  refine any_take 12 rfl (by first | rfl | decide +kernel) rfl (HeldL.refl _) (fun H' hH => OpOk.step (ok_move (.inl rfl))) ?_
  refine any_take 13 rfl (by first | rfl | decide +kernel) rfl (HeldL.refl _) (fun H' hH => OpOk.step (ok_nilCheck rfl rfl)) ?_
  refine any_take 14 rfl (by first | rfl | decide +kernel) rfl (HeldL.refl _) (fun H' hH => OpOk.step (ok_fieldAddr rfl ti_api_Rec rfl rfl ti_int (by decide) rfl)) ?_
  refine any_take 15 rfl (by first | rfl | decide +kernel) rfl (HeldL.refl _) (fun H' hH => OpOk.step (ok_move (.inl rfl))) ?_
  refine any_take 16 rfl (by first | rfl | decide +kernel) rfl (HeldL.refl _) (fun H' hH => OpOk.step (ok_nilCheck rfl rfl)) ?_
  refine any_take 17 rfl (by first | rfl | decide +kernel) rfl (HeldL.refl _) (fun H' hH => OpOk.step (ok_fieldAddr rfl ti_api_Rec rfl rfl ti_int (by decide) rfl)) ?_
  refine any_take 18 rfl (by first | rfl | decide +kernel) rfl (HeldL.refl _) (fun H' hH => OpOk.step (ok_move (.inl rfl))) ?_
  refine any_take 19 rfl (by first | rfl | decide +kernel) rfl (HeldL.refl _) (fun H' hH => OpOk.step (ok_nilCheck rfl rfl)) ?_
  refine any_take 20 rfl (by first | rfl | decide +kernel) rfl (HeldL.refl _) (fun H' hH => OpOk.step (ok_fieldAddr rfl ti_api_Rec rfl rfl ti_int (by decide) rfl)) ?_
  refine any_one 21 rfl (by first | rfl | decide +kernel) rfl rfl (OpOk.step (ok_buildSlice (n := 7) (ps := #[(0, .tmp 5), (1, .tmp 8), (2, .tmp 11), (3, .tmp 14), (4, .tmp 17), (5, .tmp 20), (6, .tmp 23)]) rfl ti_LPint rfl ti_Pint (by decide) rfl rfl (by decide) rfl rfl rfl)) (.inr (by first | (simp [HeldL]; done) | (simp only [HeldL, List.map_cons, List.map_nil, List.cons_append, List.nil_append, List.set_cons_zero, List.set_cons_succ]; (repeat' first | trivial | rfl | constructor)))) ?_
  refine any_take 22 rfl (by first | rfl | decide +kernel) rfl (by first | exact HeldL.refl _ | exact HeldL.append _ _ | simp [HeldL]) (fun H' hH => OpOk.step (ok_move (.inr rfl))) ?_
  refine any_done rfl ?_
  refine keepK hK2 [2] (by dsimp) (by dsimp) ?_
  refine T.ret (hQ _ _ _ rfl ?_).1 -- ret 1
  exact TEnt.fin [0, 1] (by decide) (by simp) (by simp [normH, hget, RcB_ren]; rfl) ⟨rfl, trivial⟩
abbrev rM : Int := 1099511627776
/-- Which records may be. -/
def PR (x : Rc) : Prop := (0 ≤ x.kind ∧ x.kind ≤ 6) ∧ (0 ≤ x.epoch ∧ x.epoch ≤ 1099511627776) ∧ (0 ≤ x.seq ∧ x.seq ≤ 1099511627776) ∧ (0 ≤ x.zone ∧ x.zone ≤ 1099511627776) ∧ (0 ≤ x.gen ∧ x.gen ≤ 1099511627776) ∧ (-1 ≤ x.slot ∧ x.slot ≤ 1099511627776) ∧ (0 ≤ x.w ∧ x.w ≤ 1099511627776) ∧ (0 ≤ x.member ∧ x.member ≤ 1099511627776) ∧ (0 ≤ x.status ∧ x.status ≤ 1099511627776) ∧ x.body.length ≤ 1048576
instance (x : Rc) : Decidable (PR x) := by unfold PR; infer_instance
theorem PR_seven {x : Rc} {i : Nat} {v : Int} (h : x.seven[i]? = some v) (hp : PR x) : 0 ≤ v ∧ v ≤ 1099511627776 := by
  have hi : i < 7 := (List.getElem?_eq_some_iff.1 h).1
  unfold PR at hp
  match i, hi with
  | 0, _ | 1, _ | 2, _ | 3, _ | 4, _ | 5, _ | 6, _ => simp [Rc.seven] at h; subst h; omega
theorem PR_nine {x : Rc} {i : Nat} {v : Int} (h : x.l[i]? = some v) (hp : PR x) : v ≤ 1099511627776 ∧ (0 ≤ v ∨ i = 5) := by
  have hi : i < 9 := (List.getElem?_eq_some_iff.1 h).1
  unfold PR at hp
  match i, hi with
  | 0, _ | 1, _ | 2, _ | 3, _ | 4, _ | 5, _ | 6, _ | 7, _ | 8, _ => simp [Rc.l] at h; subst h; omega
theorem right_ok (x : Rc) (hb : x.body.length ≤ 140737488355328) : CSpec Try.prog 41 [] [.agg (RcC x)] [] (.b (decide (PR x))) := by
  refine CSpec.body Try.func41 rfl rfl rfl rfl rfl fun Q hQ => ?_
  refine T.seq fun K1 hK1 => ?_
  refine T.region ?_ -- region 0
  refine ro rfl rfl (OpOk.step (ok_box (n := 10) rfl rfl (by decide))) ?_
  refine ro rfl rfl (OpOk.step (ok_moveb (c := false) (.inr rfl) rfl)) ?_
  refine ro_nil ?_
  refine keepK hK1 [1] (by dsimp) (by dsimp) ?_
  refine T.seq fun K2 hK2 => ?_
  refine T.seq fun K3 hK3 => ?_
  refine T.region ?_ -- region 1
  refine ro rfl rfl (ok_call rfl rfl rfl (((rnum_new x).pass [0] (by decide) (by simp) (by simp [normH, hget]; exact RcB_ren _ _) rfl).eq (x' := .sl 1 0 7) (H'' := [some (RcB x), some (RNB 0)]) rfl (by simp [mergeH, setIds, renH, RcB_ren]; rfl))) ?_
  refine ro rfl rfl (OpOk.step (ok_len' rfl rfl ti_LPint rfl (by first | exact ints_length _ _ | exact rowsA_length _ _ | rfl))) ?_
  refine ro rfl rfl (OpOk.step (ok_move (.inl rfl))) ?_
  refine ro_nil ?_
  refine keepK hK3 [1, 5, 6, 7] (by dsimp) (by dsimp) ?_
  refine T.block ?_
  refine T.loopI (ι := Nat) (fun i => i ≤ 7 ∧ ∀ j, j < i → ∀ v, x.seven[j]? = some v → 0 ≤ v ∧ v ≤ 1099511627776) (fun i => 7 - i) (fun i => ([(1, .ref 0 0 0), (5, .sl 1 0 7), (6, .int 7), (7, .int i)], [some (RcB x), some (RNB 0)])) 0 ⟨Nat.zero_le _, fun j hj => absurd hj (Nat.not_lt_zero _)⟩ (TEnt.toH rfl ⟨rfl, rfl, rfl, rfl, trivial⟩) (fun i hi => ?_) -- loop 1
  obtain ⟨hi, hall⟩ := hi
  refine T.seq fun K4 hK4 => ?_
  refine T.region ?_ -- region 2
  refine ro rfl rfl (OpOk.step (ok_binOp rfl ti_int rfl)) ?_
  refine ro_nil ?_
  refine keepK hK4 [1, 5, 6, 7, 8] (by dsimp) (by dsimp) ?_
  refine T.seq fun K5 hK5 => ?_
  refine T.cond rfl (fun hc => ?_) (fun hc => ?_) -- cond 1
  · (try simp only [decide_eq_true_eq, decide_eq_false_iff_not, beq_iff_eq, beq_eq_false_iff_ne, bne_iff_ne, bne_eq_false_iff_eq, ne_eq, Bool.not_eq_true', Bool.not_eq_false'] at hc)
    have hi7 : i < 7 := by omega
    obtain ⟨v, hv⟩ : ∃ v, x.seven[i]? = some v := ⟨_, List.getElem?_eq_getElem (by simp [Rc.seven]; omega)⟩
    have hvR := seven_get hv
    have hbad := PR_seven hv
    refine T.skip ?_
    refine keepK hK5 [1, 5, 6, 7] (by dsimp) (by dsimp) ?_
    refine T.seq fun K6 hK6 => ?_
    refine T.block ?_
    refine T.seq fun K7 hK7 => ?_
    refine T.region ?_ -- region 3
    refine ro rfl rfl (OpOk.step (by exact ok_index_sl rfl ti_LPint rfl ti_Pint rfl rfl rfl rfl (by omega) (by omega))) ?_
    refine ro rfl rfl (OpOk.step (by exact ok_load rfl ti_Pint (cl := [.ref 0 0 (fidx i)]) (f := 0) (by show locA [some (RcB x), some (RNB 0)] (.ref 1 (0 + ((i : Nat) : Int).toNat) 0) = _; simp [locA, hget, RNB_get hi7, AV.cells]) rfl)) ?_
    refine ro rfl rfl (OpOk.step (ok_move (.inr rfl))) ?_
    refine ro_nil ?_
    refine keepK hK7 [1, 4, 5, 6, 7] (by dsimp) (by dsimp) ?_
    refine T.seq fun K8 hK8 => ?_
    refine T.region ?_ -- region 4
    refine ro rfl rfl (OpOk.step (ok_move (.inl rfl))) ?_
    refine ro rfl rfl (OpOk.step (ok_nilCheck rfl rfl)) ?_
    refine ro rfl rfl (OpOk.step (by exact ok_load rfl ti_int (cl := RcC x) (f := fidx i) rfl hvR)) ?_
    refine ro rfl rfl (OpOk.step (ok_binOp rfl ti_int rfl)) ?_
    refine ro_case rfl rfl (OpOk.step (ok_moveb (.inl rfl) rfl)) (fun hb => ?_) (fun hb => ?_)
    · (try simp only [decide_eq_true_eq, decide_eq_false_iff_not, beq_iff_eq, beq_eq_false_iff_ne, bne_iff_ne, bne_eq_false_iff_eq, ne_eq, Bool.not_eq_true', Bool.not_eq_false'] at hb)
      refine ro_skip rfl rfl ?_
      refine ro_skip rfl rfl ?_
      refine ro_skip rfl rfl ?_
      refine ro_skip rfl rfl ?_
      refine ro rfl rfl (OpOk.step (ok_pickb (t := true) (d := true) rfl rfl rfl)) ?_
      refine ro_nil ?_
      refine keepK hK8 [1, 5, 6, 7, 20] (by dsimp) (by dsimp) ?_
      refine T.cond_true rfl ?_
      refine T.seq fun K9 hK9 => ?_
      refine T.region ?_ -- region 5
      refine ro rfl rfl (OpOk.step (ok_moveb (c := false) (.inr rfl) rfl)) ?_
      refine ro_nil ?_
      refine keepK hK9 [2] (by dsimp) (by dsimp) ?_
      refine T.ret (hQ _ _ _ rfl ?_).1 -- ret 1
      exact by first | (rw [decide_eq_false (fun h => by have := hbad h; omega)]; exact TEnt.fin [] (by decide) (by simp) rfl ⟨rfl, trivial⟩) | (rw [decide_eq_false (by unfold PR; omega)]; exact TEnt.fin [] (by decide) (by simp) rfl ⟨rfl, trivial⟩) | (have e : decide (PR x) = decide ((x.body.length : Int) ≤ 1048576) := (by rw [decide_eq_decide]; unfold PR; omega); rw [e]; exact TEnt.fin [] (by decide) (by simp) rfl ⟨rfl, trivial⟩)
    · (try simp only [decide_eq_true_eq, decide_eq_false_iff_not, beq_iff_eq, beq_eq_false_iff_ne, bne_iff_ne, bne_eq_false_iff_eq, ne_eq, Bool.not_eq_true', Bool.not_eq_false'] at hb)
      refine ro rfl rfl (OpOk.step (ok_move (.inl rfl))) ?_
      refine ro rfl rfl (OpOk.step (ok_nilCheck rfl rfl)) ?_
      refine ro rfl rfl (OpOk.step (by exact ok_load rfl ti_int (cl := RcC x) (f := fidx i) rfl hvR)) ?_
      refine ro rfl rfl (OpOk.step (ok_binOp rfl ti_int rfl)) ?_
      refine ro rfl rfl (OpOk.step (ok_pick rfl rfl)) ?_
      refine ro_nil ?_
      refine keepK hK8 [1, 5, 6, 7, 20] (by dsimp) (by dsimp) ?_
      refine T.cond rfl (fun hc => ?_) (fun hc => ?_) -- cond 2
      · (try simp only [decide_eq_true_eq, decide_eq_false_iff_not, beq_iff_eq, beq_eq_false_iff_ne, bne_iff_ne, bne_eq_false_iff_eq, ne_eq, Bool.not_eq_true', Bool.not_eq_false'] at hc)
        refine T.seq fun K10 hK10 => ?_
        refine T.region ?_ -- region 5
        refine ro rfl rfl (OpOk.step (ok_moveb (c := false) (.inr rfl) rfl)) ?_
        refine ro_nil ?_
        refine keepK hK10 [2] (by dsimp) (by dsimp) ?_
        refine T.ret (hQ _ _ _ rfl ?_).1 -- ret 2
        exact by first | (rw [decide_eq_false (fun h => by have := hbad h; omega)]; exact TEnt.fin [] (by decide) (by simp) rfl ⟨rfl, trivial⟩) | (rw [decide_eq_false (by unfold PR; omega)]; exact TEnt.fin [] (by decide) (by simp) rfl ⟨rfl, trivial⟩) | (have e : decide (PR x) = decide ((x.body.length : Int) ≤ 1048576) := (by rw [decide_eq_decide]; unfold PR; omega); rw [e]; exact TEnt.fin [] (by decide) (by simp) rfl ⟨rfl, trivial⟩)
      · (try simp only [decide_eq_true_eq, decide_eq_false_iff_not, beq_iff_eq, beq_eq_false_iff_ne, bne_iff_ne, bne_eq_false_iff_eq, ne_eq, Bool.not_eq_true', Bool.not_eq_false'] at hc)
        refine T.skip ?_
        refine keepK hK6 [1, 5, 6, 7] (by dsimp) (by dsimp) ?_
        refine T.region ?_ -- region 6
        refine ro rfl rfl (OpOk.step (ok_add64 rfl ti_int rfl rfl (by omega) (by omega))) ?_
        refine ro rfl rfl (OpOk.step (ok_move (.inl rfl))) ?_
        refine ro_nil ?_
        exact ⟨i + 1, ⟨by omega, fun j hj u hu => by
          rcases Nat.lt_or_ge j i with h | h
          · exact hall j h u hu
          · obtain rfl : j = i := by omega
            rw [hv] at hu
            cases hu
            omega⟩, by omega, TEnt.toH rfl ⟨rfl, rfl, rfl, rfl, trivial⟩⟩
  · (try simp only [decide_eq_true_eq, decide_eq_false_iff_not, beq_iff_eq, beq_eq_false_iff_ne, bne_iff_ne, bne_eq_false_iff_eq, ne_eq, Bool.not_eq_true', Bool.not_eq_false'] at hc)
    have hi7 : i = 7 := by omega
    subst hi7
    have a0 := hall 0 (by decide) _ rfl
    have a1 := hall 1 (by decide) _ rfl
    have a2 := hall 2 (by decide) _ rfl
    have a3 := hall 3 (by decide) _ rfl
    have a4 := hall 4 (by decide) _ rfl
    have a5 := hall 5 (by decide) _ rfl
    have a6 := hall 6 (by decide) _ rfl
    clear hall
    refine T.exit ?_
    refine keepK hK2 [1] (by dsimp) (by dsimp) ?_
    refine T.seq fun K11 hK11 => ?_
    refine T.region ?_ -- region 7
    refine ro rfl rfl (OpOk.step (ok_fieldAddr rfl ti_api_Rec rfl rfl ti_int (by decide) rfl)) ?_
    refine ro rfl rfl (OpOk.step (ok_load rfl ti_int rfl rfl)) ?_
    refine ro rfl rfl (OpOk.step (ok_binOp rfl ti_int rfl)) ?_
    refine ro_case rfl rfl (OpOk.step (ok_moveb (.inl rfl) rfl)) (fun hb => ?_) (fun hb => ?_)
    · (try simp only [decide_eq_true_eq, decide_eq_false_iff_not, beq_iff_eq, beq_eq_false_iff_ne, bne_iff_ne, bne_eq_false_iff_eq, ne_eq, Bool.not_eq_true', Bool.not_eq_false'] at hb)
      refine ro rfl rfl (OpOk.step (ok_fieldAddr rfl ti_api_Rec rfl rfl ti_int (by decide) rfl)) ?_
      refine ro rfl rfl (OpOk.step (ok_load rfl ti_int rfl rfl)) ?_
      refine ro rfl rfl (OpOk.step (ok_binOp rfl ti_int rfl)) ?_
      refine ro rfl rfl (OpOk.step (ok_pick rfl rfl)) ?_
      refine ro_case rfl rfl (OpOk.step (ok_moveb (.inl rfl) rfl)) (fun hb => ?_) (fun hb => ?_)
      · (try simp only [decide_eq_true_eq, decide_eq_false_iff_not, beq_iff_eq, beq_eq_false_iff_ne, bne_iff_ne, bne_eq_false_iff_eq, ne_eq, Bool.not_eq_true', Bool.not_eq_false'] at hb)
        refine ro rfl rfl (OpOk.step (ok_fieldAddr rfl ti_api_Rec rfl rfl ti_int (by decide) rfl)) ?_
        refine ro rfl rfl (OpOk.step (ok_load rfl ti_int rfl rfl)) ?_
        refine ro rfl rfl (OpOk.step (ok_binOp rfl ti_int rfl)) ?_
        refine ro rfl rfl (OpOk.step (ok_pick rfl rfl)) ?_
        refine ro_case rfl rfl (OpOk.step (ok_moveb (.inl rfl) rfl)) (fun hb => ?_) (fun hb => ?_)
        · (try simp only [decide_eq_true_eq, decide_eq_false_iff_not, beq_iff_eq, beq_eq_false_iff_ne, bne_iff_ne, bne_eq_false_iff_eq, ne_eq, Bool.not_eq_true', Bool.not_eq_false'] at hb)
          refine ro rfl rfl (OpOk.step (ok_fieldAddr rfl ti_api_Rec rfl rfl ti_int (by decide) rfl)) ?_
          refine ro rfl rfl (OpOk.step (ok_load rfl ti_int rfl rfl)) ?_
          refine ro rfl rfl (OpOk.step (ok_binOp rfl ti_int rfl)) ?_
          refine ro rfl rfl (OpOk.step (ok_pick rfl rfl)) ?_
          refine ro_case rfl rfl (OpOk.step (ok_moveb (.inl rfl) rfl)) (fun hb => ?_) (fun hb => ?_)
          · (try simp only [decide_eq_true_eq, decide_eq_false_iff_not, beq_iff_eq, beq_eq_false_iff_ne, bne_iff_ne, bne_eq_false_iff_eq, ne_eq, Bool.not_eq_true', Bool.not_eq_false'] at hb)
            refine ro rfl rfl (OpOk.step (ok_fieldAddr rfl ti_api_Rec rfl rfl ti_Luint8 (by decide) rfl)) ?_
            refine ro rfl rfl (OpOk.step (ok_load rfl ti_Luint8 rfl rfl)) ?_
            refine ro rfl rfl (OpOk.step (ok_len' rfl rfl ti_Luint8 rfl (by first | exact ints_length _ _ | exact rowsA_length _ _ | rfl))) ?_
            refine ro rfl rfl (OpOk.step (ok_binOp rfl ti_int rfl)) ?_
            refine ro rfl rfl (OpOk.step (ok_pick rfl rfl)) ?_
            refine ro rfl rfl (OpOk.step (ok_move (.inr rfl))) ?_
            refine ro_nil ?_
            refine keepK hK11 [2] (by dsimp) (by dsimp) ?_
            refine T.ret (hQ _ _ _ rfl ?_).1 -- ret 3
            exact by first | (rw [decide_eq_false (fun h => by have := hbad h; omega)]; exact TEnt.fin [] (by decide) (by simp) rfl ⟨rfl, trivial⟩) | (rw [decide_eq_false (by unfold PR; omega)]; exact TEnt.fin [] (by decide) (by simp) rfl ⟨rfl, trivial⟩) | (have e : decide (PR x) = decide ((x.body.length : Int) ≤ 1048576) := (by rw [decide_eq_decide]; unfold PR; omega); rw [e]; exact TEnt.fin [] (by decide) (by simp) rfl ⟨rfl, trivial⟩)
          · (try simp only [decide_eq_true_eq, decide_eq_false_iff_not, beq_iff_eq, beq_eq_false_iff_ne, bne_iff_ne, bne_eq_false_iff_eq, ne_eq, Bool.not_eq_true', Bool.not_eq_false'] at hb)
            refine ro_skip rfl rfl ?_
            refine ro_skip rfl rfl ?_
            refine ro_skip rfl rfl ?_
            refine ro_skip rfl rfl ?_
            refine ro rfl rfl (OpOk.step (ok_pickb (t := false) (d := false) rfl rfl rfl)) ?_
            refine ro rfl rfl (OpOk.step (ok_moveb (c := false) (.inr rfl) rfl)) ?_
            refine ro_nil ?_
            refine keepK hK11 [2] (by dsimp) (by dsimp) ?_
            refine T.ret (hQ _ _ _ rfl ?_).1 -- ret 4
            exact by first | (rw [decide_eq_false (fun h => by have := hbad h; omega)]; exact TEnt.fin [] (by decide) (by simp) rfl ⟨rfl, trivial⟩) | (rw [decide_eq_false (by unfold PR; omega)]; exact TEnt.fin [] (by decide) (by simp) rfl ⟨rfl, trivial⟩) | (have e : decide (PR x) = decide ((x.body.length : Int) ≤ 1048576) := (by rw [decide_eq_decide]; unfold PR; omega); rw [e]; exact TEnt.fin [] (by decide) (by simp) rfl ⟨rfl, trivial⟩)
        · (try simp only [decide_eq_true_eq, decide_eq_false_iff_not, beq_iff_eq, beq_eq_false_iff_ne, bne_iff_ne, bne_eq_false_iff_eq, ne_eq, Bool.not_eq_true', Bool.not_eq_false'] at hb)
          refine ro_skip rfl rfl ?_
          refine ro_skip rfl rfl ?_
          refine ro_skip rfl rfl ?_
          refine ro rfl rfl (OpOk.step (ok_pickb (t := false) (d := false) rfl rfl rfl)) ?_
          refine ro rfl rfl (OpOk.step (ok_moveb (c := false) (.inl rfl) rfl)) ?_
          refine ro_skip rfl rfl ?_
          refine ro_skip rfl rfl ?_
          refine ro_skip rfl rfl ?_
          refine ro_skip rfl rfl ?_
          refine ro rfl rfl (OpOk.step (ok_pickb (t := false) (d := false) rfl rfl rfl)) ?_
          refine ro rfl rfl (OpOk.step (ok_moveb (c := false) (.inr rfl) rfl)) ?_
          refine ro_nil ?_
          refine keepK hK11 [2] (by dsimp) (by dsimp) ?_
          refine T.ret (hQ _ _ _ rfl ?_).1 -- ret 5
          exact by first | (rw [decide_eq_false (fun h => by have := hbad h; omega)]; exact TEnt.fin [] (by decide) (by simp) rfl ⟨rfl, trivial⟩) | (rw [decide_eq_false (by unfold PR; omega)]; exact TEnt.fin [] (by decide) (by simp) rfl ⟨rfl, trivial⟩) | (have e : decide (PR x) = decide ((x.body.length : Int) ≤ 1048576) := (by rw [decide_eq_decide]; unfold PR; omega); rw [e]; exact TEnt.fin [] (by decide) (by simp) rfl ⟨rfl, trivial⟩)
      · (try simp only [decide_eq_true_eq, decide_eq_false_iff_not, beq_iff_eq, beq_eq_false_iff_ne, bne_iff_ne, bne_eq_false_iff_eq, ne_eq, Bool.not_eq_true', Bool.not_eq_false'] at hb)
        refine ro_skip rfl rfl ?_
        refine ro_skip rfl rfl ?_
        refine ro_skip rfl rfl ?_
        refine ro rfl rfl (OpOk.step (ok_pickb (t := false) (d := false) rfl rfl rfl)) ?_
        refine ro rfl rfl (OpOk.step (ok_moveb (c := false) (.inl rfl) rfl)) ?_
        refine ro_skip rfl rfl ?_
        refine ro_skip rfl rfl ?_
        refine ro_skip rfl rfl ?_
        refine ro rfl rfl (OpOk.step (ok_pickb (t := false) (d := false) rfl rfl rfl)) ?_
        refine ro rfl rfl (OpOk.step (ok_moveb (c := false) (.inl rfl) rfl)) ?_
        refine ro_skip rfl rfl ?_
        refine ro_skip rfl rfl ?_
        refine ro_skip rfl rfl ?_
        refine ro_skip rfl rfl ?_
        refine ro rfl rfl (OpOk.step (ok_pickb (t := false) (d := false) rfl rfl rfl)) ?_
        refine ro rfl rfl (OpOk.step (ok_moveb (c := false) (.inr rfl) rfl)) ?_
        refine ro_nil ?_
        refine keepK hK11 [2] (by dsimp) (by dsimp) ?_
        refine T.ret (hQ _ _ _ rfl ?_).1 -- ret 6
        exact by first | (rw [decide_eq_false (fun h => by have := hbad h; omega)]; exact TEnt.fin [] (by decide) (by simp) rfl ⟨rfl, trivial⟩) | (rw [decide_eq_false (by unfold PR; omega)]; exact TEnt.fin [] (by decide) (by simp) rfl ⟨rfl, trivial⟩) | (have e : decide (PR x) = decide ((x.body.length : Int) ≤ 1048576) := (by rw [decide_eq_decide]; unfold PR; omega); rw [e]; exact TEnt.fin [] (by decide) (by simp) rfl ⟨rfl, trivial⟩)
    · (try simp only [decide_eq_true_eq, decide_eq_false_iff_not, beq_iff_eq, beq_eq_false_iff_ne, bne_iff_ne, bne_eq_false_iff_eq, ne_eq, Bool.not_eq_true', Bool.not_eq_false'] at hb)
      refine ro_skip rfl rfl ?_
      refine ro_skip rfl rfl ?_
      refine ro_skip rfl rfl ?_
      refine ro rfl rfl (OpOk.step (ok_pickb (t := false) (d := false) rfl rfl rfl)) ?_
      refine ro rfl rfl (OpOk.step (ok_moveb (c := false) (.inl rfl) rfl)) ?_
      refine ro_skip rfl rfl ?_
      refine ro_skip rfl rfl ?_
      refine ro_skip rfl rfl ?_
      refine ro rfl rfl (OpOk.step (ok_pickb (t := false) (d := false) rfl rfl rfl)) ?_
      refine ro rfl rfl (OpOk.step (ok_moveb (c := false) (.inl rfl) rfl)) ?_
      refine ro_skip rfl rfl ?_
      refine ro_skip rfl rfl ?_
      refine ro_skip rfl rfl ?_
      refine ro rfl rfl (OpOk.step (ok_pickb (t := false) (d := false) rfl rfl rfl)) ?_
      refine ro rfl rfl (OpOk.step (ok_moveb (c := false) (.inl rfl) rfl)) ?_
      refine ro_skip rfl rfl ?_
      refine ro_skip rfl rfl ?_
      refine ro_skip rfl rfl ?_
      refine ro_skip rfl rfl ?_
      refine ro rfl rfl (OpOk.step (ok_pickb (t := false) (d := false) rfl rfl rfl)) ?_
      refine ro rfl rfl (OpOk.step (ok_moveb (c := false) (.inr rfl) rfl)) ?_
      refine ro_nil ?_
      refine keepK hK11 [2] (by dsimp) (by dsimp) ?_
      refine T.ret (hQ _ _ _ rfl ?_).1 -- ret 7
      exact by first | (rw [decide_eq_false (fun h => by have := hbad h; omega)]; exact TEnt.fin [] (by decide) (by simp) rfl ⟨rfl, trivial⟩) | (rw [decide_eq_false (by unfold PR; omega)]; exact TEnt.fin [] (by decide) (by simp) rfl ⟨rfl, trivial⟩) | (have e : decide (PR x) = decide ((x.body.length : Int) ≤ 1048576) := (by rw [decide_eq_decide]; unfold PR; omega); rw [e]; exact TEnt.fin [] (by decide) (by simp) rfl ⟨rfl, trivial⟩)
theorem rlist_new (x : Rc) : CSpec Try.prog 25 [] [.agg (RcC x)] [some ⟨1, true, ints .i64 x.l⟩] (.sl 0 0 9) := by
  refine CSpec.body Try.func25 rfl rfl rfl rfl rfl fun Q hQ => ?_
  refine T.seq fun K1 hK1 => ?_
  refine T.region ?_ -- region 0
  refine ro rfl rfl (OpOk.step (ok_box (n := 10) rfl rfl (by decide))) ?_
  refine ro rfl rfl (OpOk.step (ok_move (.inr rfl))) ?_
  refine ro_nil ?_
  refine keepK hK1 [1] (by dsimp) (by dsimp) ?_
  refine T.seq fun K2 hK2 => ?_
  refine T.region ?_ -- region 1
  refine ro rfl rfl (OpOk.step (ok_fieldAddr rfl ti_api_Rec rfl rfl ti_int (by decide) rfl)) ?_
  refine ro rfl rfl (OpOk.step (ok_load rfl ti_int rfl rfl)) ?_
  refine ro rfl rfl (OpOk.step (ok_fieldAddr rfl ti_api_Rec rfl rfl ti_int (by decide) rfl)) ?_
  refine ro rfl rfl (OpOk.step (ok_load rfl ti_int rfl rfl)) ?_
  refine ro rfl rfl (OpOk.step (ok_fieldAddr rfl ti_api_Rec rfl rfl ti_int (by decide) rfl)) ?_
  refine ro rfl rfl (OpOk.step (ok_load rfl ti_int rfl rfl)) ?_
  refine ro rfl rfl (OpOk.step (ok_fieldAddr rfl ti_api_Rec rfl rfl ti_int (by decide) rfl)) ?_
  refine ro rfl rfl (OpOk.step (ok_load rfl ti_int rfl rfl)) ?_
  refine ro rfl rfl (OpOk.step (ok_fieldAddr rfl ti_api_Rec rfl rfl ti_int (by decide) rfl)) ?_
  refine ro rfl rfl (OpOk.step (ok_load rfl ti_int rfl rfl)) ?_
  refine ro rfl rfl (OpOk.step (ok_fieldAddr rfl ti_api_Rec rfl rfl ti_int (by decide) rfl)) ?_
  refine ro rfl rfl (OpOk.step (ok_load rfl ti_int rfl rfl)) ?_
  refine ro rfl rfl (OpOk.step (ok_fieldAddr rfl ti_api_Rec rfl rfl ti_int (by decide) rfl)) ?_
  refine ro rfl rfl (OpOk.step (ok_load rfl ti_int rfl rfl)) ?_
  refine ro rfl rfl (OpOk.step (ok_fieldAddr rfl ti_api_Rec rfl rfl ti_int (by decide) rfl)) ?_
  refine ro rfl rfl (OpOk.step (ok_load rfl ti_int rfl rfl)) ?_
  refine ro rfl rfl (OpOk.step (ok_fieldAddr rfl ti_api_Rec rfl rfl ti_int (by decide) rfl)) ?_
  refine ro rfl rfl (OpOk.step (ok_load rfl ti_int rfl rfl)) ?_
  refine ro rfl rfl (OpOk.step (ok_buildSlice (n := 9) (ps := #[(0, .tmp 4), (1, .tmp 6), (2, .tmp 8), (3, .tmp 10), (4, .tmp 12), (5, .tmp 14), (6, .tmp 16), (7, .tmp 18), (8, .tmp 20)]) rfl ti_Lint rfl ti_int (by decide) rfl rfl (by decide) rfl rfl rfl)) ?_
  refine ro rfl rfl (OpOk.step (ok_move (.inr rfl))) ?_
  refine ro_nil ?_
  refine keepK hK2 [2] (by dsimp) (by dsimp) ?_
  refine T.ret (hQ _ _ _ rfl ?_).1 -- ret 1
  exact TEnt.fin [1] (by decide) (by simp) rfl ⟨rfl, trivial⟩
theorem rlist_frz (x : Rc) : CSpec Try.prog 25 [] [.agg (RcC x)] [] (.fz 1 (ints .i64 x.l)) := (rlist_new x).frz rfl (renL_ints _ _ _)
theorem rright_ok (x : Rc) (hb : x.body.length ≤ 140737488355328) : CSpec Try.prog 26 [] [.agg (RcC x)] [] (.b (decide (PR x))) := by
  obtain ⟨L, hL⟩ : ∃ L, x.l = L := ⟨_, rfl⟩
  have hLl : L.length = 9 := by rw [← hL]; rfl
  refine CSpec.body Try.func26 rfl rfl rfl rfl rfl fun Q hQ => ?_
  refine T.seq fun K1 hK1 => ?_
  refine T.region ?_ -- region 0
  refine ro rfl rfl (OpOk.step (ok_box (n := 10) rfl rfl (by decide))) ?_
  refine ro rfl rfl (OpOk.step (ok_moveb (c := false) (.inr rfl) rfl)) ?_
  refine ro_nil ?_
  refine keepK hK1 [1] (by dsimp) (by dsimp) ?_
  refine T.seq fun K2 hK2 => ?_
  refine T.region ?_ -- region 1
  refine ro rfl rfl (OpOk.step (ok_load rfl ti_api_Rec rfl rfl)) ?_
  refine ro rfl rfl (ok_call rfl rfl rfl (((rlist_frz x).plain (by show renL (pos []) [.agg (RcC x)] = _; simp [renL, AV.ren, RcC_ren]) (by simp [AV.ren, renL_ints])).eq (x' := .fz 1 (ints .i64 L)) (by rw [hL]) rfl)) ?_
  refine ro rfl rfl (OpOk.step (ok_move (.inr rfl))) ?_
  refine ro_nil ?_
  refine keepK hK2 [1, 3] (by dsimp) (by dsimp) ?_
  refine T.seq fun K3 hK3 => ?_
  refine T.seq fun K4 hK4 => ?_
  refine T.region ?_ -- region 2
  refine ro rfl rfl (OpOk.step (ok_move (.inr rfl))) ?_
  refine ro_nil ?_
  refine keepK hK4 [1, 3, 4] (by dsimp) (by dsimp) ?_
  refine T.block ?_
  refine T.loopI (ι := Nat) (fun i => i ≤ 9 ∧ ∀ j, j < i → ∀ v, L[j]? = some v → v ≤ 1099511627776 ∧ (0 ≤ v ∨ j = 5)) (fun i => 9 - i) (fun i => ([(1, .ref 0 0 0), (3, .fz 1 (ints .i64 L)), (4, .int i)], [some (RcB x)])) 0 ⟨Nat.zero_le _, fun j hj => absurd hj (Nat.not_lt_zero _)⟩ (TEnt.toH rfl ⟨rfl, rfl, rfl, trivial⟩) (fun i hi => ?_) -- loop 1
  obtain ⟨hi, hall⟩ := hi
  refine T.seq fun K5 hK5 => ?_
  refine T.seq fun K6 hK6 => ?_
  refine T.region ?_ -- region 3
  refine ro rfl rfl (OpOk.step (ok_move (.inl rfl))) ?_
  refine ro rfl rfl (OpOk.step (ok_move (.inl rfl))) ?_
  refine ro rfl rfl (OpOk.step (ok_len' rfl rfl ti_Lint rfl (by first | exact ints_length _ _ | exact rowsA_length _ _ | rfl))) ?_
  refine ro rfl rfl (OpOk.step (ok_binOp rfl ti_int rfl)) ?_
  refine ro_nil ?_
  refine keepK hK6 [1, 3, 4, 10] (by dsimp) (by dsimp) ?_
  refine T.cond rfl (fun hc => ?_) (fun hc => ?_) -- cond 1
  · (try simp only [decide_eq_true_eq, decide_eq_false_iff_not, beq_iff_eq, beq_eq_false_iff_ne, bne_iff_ne, bne_eq_false_iff_eq, ne_eq, Bool.not_eq_true', Bool.not_eq_false'] at hc)
    have hi9 : i < 9 := by omega
    obtain ⟨v, hv⟩ : ∃ v, L[i]? = some v := ⟨_, List.getElem?_eq_getElem (by omega)⟩
    have hbad := PR_nine (hL ▸ hv : x.l[i]? = some v)
    refine T.skip ?_
    refine keepK hK5 [1, 3, 4] (by dsimp) (by dsimp) ?_
    refine T.seq fun K7 hK7 => ?_
    refine T.block ?_
    refine T.seq fun K8 hK8 => ?_
    refine T.region ?_ -- region 5
    refine ro rfl rfl (OpOk.step (ok_move (.inl rfl))) ?_
    refine ro rfl rfl (OpOk.step (ok_move (.inl rfl))) ?_
    refine ro rfl rfl (OpOk.step (by exact ok_index_ints rfl ti_Lint rfl ti_int rfl rfl rfl (by omega) (by simpa using hv))) ?_
    refine ro rfl rfl (OpOk.step (by exact ok_load rfl ti_int (cl := [.int v]) (f := 0) rfl rfl)) ?_
    refine ro rfl rfl (OpOk.step (ok_binOp rfl ti_int rfl)) ?_
    refine ro_case rfl rfl (OpOk.step (ok_moveb (.inl rfl) rfl)) (fun hb => ?_) (fun hb => ?_)
    · (try simp only [decide_eq_true_eq, decide_eq_false_iff_not, beq_iff_eq, beq_eq_false_iff_ne, bne_iff_ne, bne_eq_false_iff_eq, ne_eq, Bool.not_eq_true', Bool.not_eq_false'] at hb)
      refine ro_skip rfl rfl ?_
      refine ro_skip rfl rfl ?_
      refine ro_skip rfl rfl ?_
      refine ro_skip rfl rfl ?_
      refine ro_skip rfl rfl ?_
      refine ro_skip rfl rfl ?_
      refine ro_skip rfl rfl ?_
      refine ro_skip rfl rfl ?_
      refine ro_skip rfl rfl ?_
      refine ro rfl rfl (OpOk.step (ok_pickb (t := true) (d := true) rfl rfl rfl)) ?_
      refine ro_nil ?_
      refine keepK hK8 [1, 3, 4, 28] (by dsimp) (by dsimp) ?_
      refine T.cond_true rfl ?_
      refine T.seq fun K9 hK9 => ?_
      refine T.region ?_ -- region 6
      refine ro rfl rfl (OpOk.step (ok_moveb (c := false) (.inr rfl) rfl)) ?_
      refine ro_nil ?_
      refine keepK hK9 [2] (by dsimp) (by dsimp) ?_
      refine T.ret (hQ _ _ _ rfl ?_).1 -- ret 1
      exact by first | (rw [decide_eq_false (fun h => by have := hbad h; omega)]; exact TEnt.fin [] (by decide) (by simp) rfl ⟨rfl, trivial⟩) | (rw [decide_eq_false (by unfold PR; omega)]; exact TEnt.fin [] (by decide) (by simp) rfl ⟨rfl, trivial⟩) | (have e : decide (PR x) = decide ((x.body.length : Int) ≤ 1048576) := (by rw [decide_eq_decide]; unfold PR; omega); rw [e]; exact TEnt.fin [] (by decide) (by simp) rfl ⟨rfl, trivial⟩)
    · (try simp only [decide_eq_true_eq, decide_eq_false_iff_not, beq_iff_eq, beq_eq_false_iff_ne, bne_iff_ne, bne_eq_false_iff_eq, ne_eq, Bool.not_eq_true', Bool.not_eq_false'] at hb)
      refine ro rfl rfl (OpOk.step (ok_move (.inl rfl))) ?_
      refine ro rfl rfl (OpOk.step (ok_move (.inl rfl))) ?_
      refine ro rfl rfl (OpOk.step (by exact ok_index_ints rfl ti_Lint rfl ti_int rfl rfl rfl (by omega) (by simpa using hv))) ?_
      refine ro rfl rfl (OpOk.step (ok_load rfl ti_int rfl rfl)) ?_
      refine ro rfl rfl (OpOk.step (ok_binOp rfl ti_int rfl)) ?_
      refine ro_case rfl rfl (OpOk.step (ok_moveb (.inl rfl) rfl)) (fun hb => ?_) (fun hb => ?_)
      · (try simp only [decide_eq_true_eq, decide_eq_false_iff_not, beq_iff_eq, beq_eq_false_iff_ne, bne_iff_ne, bne_eq_false_iff_eq, ne_eq, Bool.not_eq_true', Bool.not_eq_false'] at hb)
        refine ro rfl rfl (OpOk.step (ok_move (.inl rfl))) ?_
        refine ro rfl rfl (OpOk.step (ok_binOp rfl ti_int rfl)) ?_
        refine ro rfl rfl (OpOk.step (ok_pick rfl rfl)) ?_
        refine ro rfl rfl (OpOk.step (ok_pick rfl rfl)) ?_
        refine ro_nil ?_
        refine keepK hK8 [1, 3, 4, 28] (by dsimp) (by dsimp) ?_
        refine T.cond rfl (fun hc => ?_) (fun hc => ?_) -- cond 2
        · (try simp only [decide_eq_true_eq, decide_eq_false_iff_not, beq_iff_eq, beq_eq_false_iff_ne, bne_iff_ne, bne_eq_false_iff_eq, ne_eq, Bool.not_eq_true', Bool.not_eq_false'] at hc)
          refine T.seq fun K10 hK10 => ?_
          refine T.region ?_ -- region 6
          refine ro rfl rfl (OpOk.step (ok_moveb (c := false) (.inr rfl) rfl)) ?_
          refine ro_nil ?_
          refine keepK hK10 [2] (by dsimp) (by dsimp) ?_
          refine T.ret (hQ _ _ _ rfl ?_).1 -- ret 2
          exact by first | (rw [decide_eq_false (fun h => by have := hbad h; omega)]; exact TEnt.fin [] (by decide) (by simp) rfl ⟨rfl, trivial⟩) | (rw [decide_eq_false (by unfold PR; omega)]; exact TEnt.fin [] (by decide) (by simp) rfl ⟨rfl, trivial⟩) | (have e : decide (PR x) = decide ((x.body.length : Int) ≤ 1048576) := (by rw [decide_eq_decide]; unfold PR; omega); rw [e]; exact TEnt.fin [] (by decide) (by simp) rfl ⟨rfl, trivial⟩)
        · (try simp only [decide_eq_true_eq, decide_eq_false_iff_not, beq_iff_eq, beq_eq_false_iff_ne, bne_iff_ne, bne_eq_false_iff_eq, ne_eq, Bool.not_eq_true', Bool.not_eq_false'] at hc)
          refine T.skip ?_
          refine keepK hK7 [1, 3, 4] (by dsimp) (by dsimp) ?_
          refine T.region ?_ -- region 4
          refine ro rfl rfl (OpOk.step (ok_move (.inl rfl))) ?_
          refine ro rfl rfl (OpOk.step (ok_add64 rfl ti_int rfl rfl (by omega) (by omega))) ?_
          refine ro rfl rfl (OpOk.step (ok_move (.inr rfl))) ?_
          refine ro_nil ?_
          exact ⟨i + 1, ⟨by omega, fun j hj u hu => by
            rcases Nat.lt_or_ge j i with h | h
            · exact hall j h u hu
            · obtain rfl : j = i := by omega
              rw [hv] at hu
              cases hu
              omega⟩, by omega, TEnt.toH rfl ⟨rfl, rfl, rfl, trivial⟩⟩
      · (try simp only [decide_eq_true_eq, decide_eq_false_iff_not, beq_iff_eq, beq_eq_false_iff_ne, bne_iff_ne, bne_eq_false_iff_eq, ne_eq, Bool.not_eq_true', Bool.not_eq_false'] at hb)
        refine ro_skip rfl rfl ?_
        refine ro_skip rfl rfl ?_
        refine ro rfl rfl (OpOk.step (ok_pickb (t := false) (d := false) rfl rfl rfl)) ?_
        refine ro rfl rfl (OpOk.step (ok_pickb (t := false) (d := false) rfl rfl rfl)) ?_
        refine ro_nil ?_
        refine keepK hK8 [1, 3, 4, 28] (by dsimp) (by dsimp) ?_
        refine T.cond_false rfl ?_
        refine T.skip ?_
        refine keepK hK7 [1, 3, 4] (by dsimp) (by dsimp) ?_
        refine T.region ?_ -- region 4
        refine ro rfl rfl (OpOk.step (ok_move (.inl rfl))) ?_
        refine ro rfl rfl (OpOk.step (ok_add64 rfl ti_int rfl rfl (by omega) (by omega))) ?_
        refine ro rfl rfl (OpOk.step (ok_move (.inr rfl))) ?_
        refine ro_nil ?_
        exact ⟨i + 1, ⟨by omega, fun j hj u hu => by
          rcases Nat.lt_or_ge j i with h | h
          · exact hall j h u hu
          · obtain rfl : j = i := by omega
            rw [hv] at hu
            cases hu
            omega⟩, by omega, TEnt.toH rfl ⟨rfl, rfl, rfl, trivial⟩⟩
  · (try simp only [decide_eq_true_eq, decide_eq_false_iff_not, beq_iff_eq, beq_eq_false_iff_ne, bne_iff_ne, bne_eq_false_iff_eq, ne_eq, Bool.not_eq_true', Bool.not_eq_false'] at hc)
    have hi9 : i = 9 := by omega
    subst hi9
    rw [← hL] at hall
    have a0 := hall 0 (by decide) _ rfl
    have a1 := hall 1 (by decide) _ rfl
    have a2 := hall 2 (by decide) _ rfl
    have a3 := hall 3 (by decide) _ rfl
    have a4 := hall 4 (by decide) _ rfl
    have a5 := hall 5 (by decide) _ rfl
    have a6 := hall 6 (by decide) _ rfl
    have a7 := hall 7 (by decide) _ rfl
    have a8 := hall 8 (by decide) _ rfl
    clear hall
    refine T.exit ?_
    refine keepK hK3 [1] (by dsimp) (by dsimp) ?_
    refine T.seq fun K11 hK11 => ?_
    refine T.region ?_ -- region 7
    refine ro rfl rfl (OpOk.step (ok_fieldAddr rfl ti_api_Rec rfl rfl ti_int (by decide) rfl)) ?_
    refine ro rfl rfl (OpOk.step (ok_load rfl ti_int rfl rfl)) ?_
    refine ro rfl rfl (OpOk.step (ok_binOp rfl ti_int rfl)) ?_
    refine ro_case rfl rfl (OpOk.step (ok_moveb (.inl rfl) rfl)) (fun hb => ?_) (fun hb => ?_)
    · (try simp only [decide_eq_true_eq, decide_eq_false_iff_not, beq_iff_eq, beq_eq_false_iff_ne, bne_iff_ne, bne_eq_false_iff_eq, ne_eq, Bool.not_eq_true', Bool.not_eq_false'] at hb)
      refine ro rfl rfl (OpOk.step (ok_fieldAddr rfl ti_api_Rec rfl rfl ti_int (by decide) rfl)) ?_
      refine ro rfl rfl (OpOk.step (ok_load rfl ti_int rfl rfl)) ?_
      refine ro rfl rfl (OpOk.step (ok_binOp rfl ti_int rfl)) ?_
      refine ro rfl rfl (OpOk.step (ok_pick rfl rfl)) ?_
      refine ro_case rfl rfl (OpOk.step (ok_moveb (.inl rfl) rfl)) (fun hb => ?_) (fun hb => ?_)
      · (try simp only [decide_eq_true_eq, decide_eq_false_iff_not, beq_iff_eq, beq_eq_false_iff_ne, bne_iff_ne, bne_eq_false_iff_eq, ne_eq, Bool.not_eq_true', Bool.not_eq_false'] at hb)
        refine ro rfl rfl (OpOk.step (ok_fieldAddr rfl ti_api_Rec rfl rfl ti_Luint8 (by decide) rfl)) ?_
        refine ro rfl rfl (OpOk.step (ok_load rfl ti_Luint8 rfl rfl)) ?_
        refine ro rfl rfl (OpOk.step (ok_len' rfl rfl ti_Luint8 rfl (by first | exact ints_length _ _ | exact rowsA_length _ _ | rfl))) ?_
        refine ro rfl rfl (OpOk.step (ok_binOp rfl ti_int rfl)) ?_
        refine ro rfl rfl (OpOk.step (ok_pick rfl rfl)) ?_
        refine ro rfl rfl (OpOk.step (ok_move (.inr rfl))) ?_
        refine ro_nil ?_
        refine keepK hK11 [2] (by dsimp) (by dsimp) ?_
        refine T.ret (hQ _ _ _ rfl ?_).1 -- ret 3
        exact by first | (rw [decide_eq_false (fun h => by have := hbad h; omega)]; exact TEnt.fin [] (by decide) (by simp) rfl ⟨rfl, trivial⟩) | (rw [decide_eq_false (by unfold PR; omega)]; exact TEnt.fin [] (by decide) (by simp) rfl ⟨rfl, trivial⟩) | (have e : decide (PR x) = decide ((x.body.length : Int) ≤ 1048576) := (by rw [decide_eq_decide]; unfold PR; omega); rw [e]; exact TEnt.fin [] (by decide) (by simp) rfl ⟨rfl, trivial⟩)
      · (try simp only [decide_eq_true_eq, decide_eq_false_iff_not, beq_iff_eq, beq_eq_false_iff_ne, bne_iff_ne, bne_eq_false_iff_eq, ne_eq, Bool.not_eq_true', Bool.not_eq_false'] at hb)
        refine ro_skip rfl rfl ?_
        refine ro_skip rfl rfl ?_
        refine ro_skip rfl rfl ?_
        refine ro_skip rfl rfl ?_
        refine ro rfl rfl (OpOk.step (ok_pickb (t := false) (d := false) rfl rfl rfl)) ?_
        refine ro rfl rfl (OpOk.step (ok_moveb (c := false) (.inr rfl) rfl)) ?_
        refine ro_nil ?_
        refine keepK hK11 [2] (by dsimp) (by dsimp) ?_
        refine T.ret (hQ _ _ _ rfl ?_).1 -- ret 4
        exact by first | (rw [decide_eq_false (fun h => by have := hbad h; omega)]; exact TEnt.fin [] (by decide) (by simp) rfl ⟨rfl, trivial⟩) | (rw [decide_eq_false (by unfold PR; omega)]; exact TEnt.fin [] (by decide) (by simp) rfl ⟨rfl, trivial⟩) | (have e : decide (PR x) = decide ((x.body.length : Int) ≤ 1048576) := (by rw [decide_eq_decide]; unfold PR; omega); rw [e]; exact TEnt.fin [] (by decide) (by simp) rfl ⟨rfl, trivial⟩)
    · (try simp only [decide_eq_true_eq, decide_eq_false_iff_not, beq_iff_eq, beq_eq_false_iff_ne, bne_iff_ne, bne_eq_false_iff_eq, ne_eq, Bool.not_eq_true', Bool.not_eq_false'] at hb)
      refine ro_skip rfl rfl ?_
      refine ro_skip rfl rfl ?_
      refine ro_skip rfl rfl ?_
      refine ro rfl rfl (OpOk.step (ok_pickb (t := false) (d := false) rfl rfl rfl)) ?_
      refine ro rfl rfl (OpOk.step (ok_moveb (c := false) (.inl rfl) rfl)) ?_
      refine ro_skip rfl rfl ?_
      refine ro_skip rfl rfl ?_
      refine ro_skip rfl rfl ?_
      refine ro_skip rfl rfl ?_
      refine ro rfl rfl (OpOk.step (ok_pickb (t := false) (d := false) rfl rfl rfl)) ?_
      refine ro rfl rfl (OpOk.step (ok_moveb (c := false) (.inr rfl) rfl)) ?_
      refine ro_nil ?_
      refine keepK hK11 [2] (by dsimp) (by dsimp) ?_
      refine T.ret (hQ _ _ _ rfl ?_).1 -- ret 5
      exact by first | (rw [decide_eq_false (fun h => by have := hbad h; omega)]; exact TEnt.fin [] (by decide) (by simp) rfl ⟨rfl, trivial⟩) | (rw [decide_eq_false (by unfold PR; omega)]; exact TEnt.fin [] (by decide) (by simp) rfl ⟨rfl, trivial⟩) | (have e : decide (PR x) = decide ((x.body.length : Int) ≤ 1048576) := (by rw [decide_eq_decide]; unfold PR; omega); rw [e]; exact TEnt.fin [] (by decide) (by simp) rfl ⟨rfl, trivial⟩)
def payR (x : Rc) : List Int := (encs x.l ++ enc x.body.length 8) ++ x.body
theorem payR_len (x : Rc) : (payR x).length = 80 + x.body.length := by
  have : (encs x.l).length = 72 := by rw [encs_len]; rfl
  simp [payR, this]; omega
theorem payR_bytes {x : Rc} (h : Bytes x.body) : Bytes (payR x) := ((encs_bytes _).append (enc_bytes _ _)).append h
theorem payload_ok (x : Rc) (hb : x.body.length ≤ 1048576) : CSpec Try.prog 42 [] [.agg (RcC x)] [] (.fz 1 (ints .u8 (payR x))) := by
  obtain ⟨L, hL⟩ : ∃ L, x.l = L := ⟨_, rfl⟩
  have hLl : L.length = 9 := by rw [← hL]; rfl
  have hpl : payR x = (encs L ++ enc x.body.length 8) ++ x.body := by rw [← hL]; rfl
  have hel : ∀ i, (encs (L.take i)).length ≤ 72 := fun i => by rw [encs_len, List.length_take]; omega
  rw [hpl]
  refine CSpec.body Try.func42 rfl rfl rfl rfl rfl fun Q hQ => ?_
  refine T.seq fun K1 hK1 => ?_
  refine T.region ?_ -- region 0
  refine ro rfl rfl (OpOk.step (ok_box (n := 10) rfl rfl (by decide))) ?_
  refine ro rfl rfl (OpOk.step (ok_move (.inr rfl))) ?_
  refine ro_nil ?_
  refine keepK hK1 [1] (by dsimp) (by dsimp) ?_
  refine T.seq fun K2 hK2 => ?_
  refine T.region ?_ -- region 1
  refine ro rfl rfl (OpOk.step (ok_move (.inr rfl))) ?_
  refine ro_nil ?_
  refine keepK hK2 [1, 3] (by dsimp) (by dsimp) ?_
  refine T.seq fun K3 hK3 => ?_
  refine T.seq fun K4 hK4 => ?_
  refine T.region ?_ -- region 2
  refine ro rfl rfl (OpOk.step (ok_fieldAddr rfl ti_api_Rec rfl rfl ti_int (by decide) rfl)) ?_
  refine ro rfl rfl (OpOk.step (ok_load rfl ti_int rfl rfl)) ?_
  refine ro rfl rfl (OpOk.step (ok_fieldAddr rfl ti_api_Rec rfl rfl ti_int (by decide) rfl)) ?_
  refine ro rfl rfl (OpOk.step (ok_load rfl ti_int rfl rfl)) ?_
  refine ro rfl rfl (OpOk.step (ok_fieldAddr rfl ti_api_Rec rfl rfl ti_int (by decide) rfl)) ?_
  refine ro rfl rfl (OpOk.step (ok_load rfl ti_int rfl rfl)) ?_
  refine ro rfl rfl (OpOk.step (ok_fieldAddr rfl ti_api_Rec rfl rfl ti_int (by decide) rfl)) ?_
  refine ro rfl rfl (OpOk.step (ok_load rfl ti_int rfl rfl)) ?_
  refine ro rfl rfl (OpOk.step (ok_fieldAddr rfl ti_api_Rec rfl rfl ti_int (by decide) rfl)) ?_
  refine ro rfl rfl (OpOk.step (ok_load rfl ti_int rfl rfl)) ?_
  refine ro rfl rfl (OpOk.step (ok_fieldAddr rfl ti_api_Rec rfl rfl ti_int (by decide) rfl)) ?_
  refine ro rfl rfl (OpOk.step (ok_load rfl ti_int rfl rfl)) ?_
  refine ro rfl rfl (OpOk.step (ok_fieldAddr rfl ti_api_Rec rfl rfl ti_int (by decide) rfl)) ?_
  refine ro rfl rfl (OpOk.step (ok_load rfl ti_int rfl rfl)) ?_
  refine ro rfl rfl (OpOk.step (ok_fieldAddr rfl ti_api_Rec rfl rfl ti_int (by decide) rfl)) ?_
  refine ro rfl rfl (OpOk.step (ok_load rfl ti_int rfl rfl)) ?_
  refine ro rfl rfl (OpOk.step (ok_fieldAddr rfl ti_api_Rec rfl rfl ti_int (by decide) rfl)) ?_
  refine ro rfl rfl (OpOk.step (ok_load rfl ti_int rfl rfl)) ?_
  refine ro rfl rfl (OpOk.step ((ok_buildSlice (n := 9) (ps := #[(0, .tmp 7), (1, .tmp 9), (2, .tmp 11), (3, .tmp 13), (4, .tmp 15), (5, .tmp 17), (6, .tmp 19), (7, .tmp 21), (8, .tmp 23)]) rfl ti_Lint rfl ti_int (by decide) rfl rfl (by decide) rfl rfl rfl).eq (x' := .sl 1 0 9) (H'' := [some (RcB x), some ⟨1, true, ints .i64 L⟩]) rfl (by rw [← hL]; rfl))) ?_
  refine ro rfl rfl (OpOk.step (ok_len' rfl rfl ti_Lint rfl (by first | exact ints_length _ _ | exact rowsA_length _ _ | rfl))) ?_
  refine ro rfl rfl (OpOk.step (ok_move (.inl rfl))) ?_
  refine ro_nil ?_
  refine keepK hK4 [1, 3, 24, 25, 26] (by dsimp) (by dsimp) ?_
  refine T.block ?_
  refine T.loopI (ι := Nat) (fun i => i ≤ 9) (fun i => 9 - i) (fun i => ([(1, .ref 0 0 0), (3, .fz 1 (ints .u8 (encs (L.take i)))), (24, .sl 1 0 9), (25, .int 9), (26, .int i)], [some (RcB x), some ⟨1, true, ints .i64 L⟩])) 0 (Nat.zero_le _) ((TEnt.put1 3 (Ent.nil 1)).trans (TEnt.toH rfl ⟨rfl, rfl, rfl, rfl, rfl, trivial⟩)) (fun i hi => ?_) -- loop 1
  refine T.seq fun K5 hK5 => ?_
  refine T.region ?_ -- region 3
  refine ro rfl rfl (OpOk.step (ok_binOp rfl ti_int rfl)) ?_
  refine ro_nil ?_
  refine keepK hK5 [1, 3, 24, 25, 26, 27] (by dsimp) (by dsimp) ?_
  refine T.seq fun K6 hK6 => ?_
  refine T.cond rfl (fun hc => ?_) (fun hc => ?_) -- cond 1
  · (try simp only [decide_eq_true_eq, decide_eq_false_iff_not, beq_iff_eq, beq_eq_false_iff_ne, bne_iff_ne, bne_eq_false_iff_eq, ne_eq, Bool.not_eq_true', Bool.not_eq_false'] at hc)
    have hi9 : i < 9 := by omega
    obtain ⟨v, hv⟩ : ∃ v, L[i]? = some v := ⟨_, List.getElem?_eq_getElem (by omega)⟩
    have htk : encs (L.take i) ++ enc v 8 = encs (L.take (i + 1)) := by rw [take_succ_get hv, encs_snoc]
    have hel' := hel i
    refine T.skip ?_
    refine keepK hK6 [1, 3, 24, 25, 26] (by dsimp) (by dsimp) ?_
    refine T.seq fun K7 hK7 => ?_
    refine T.block ?_
    refine T.seq fun K8 hK8 => ?_
    refine T.region ?_ -- region 4
    refine ro rfl rfl (OpOk.step (by exact ok_index_sl rfl ti_Lint rfl ti_int rfl rfl rfl rfl (by omega) (by omega))) ?_
    refine ro rfl rfl (OpOk.step (by exact ok_load_ints rfl ti_int rfl rfl rfl rfl (by simpa using hv))) ?_
    refine ro rfl rfl (OpOk.step (ok_move (.inr rfl))) ?_
    refine ro_nil ?_
    refine keepK hK8 [1, 3, 5, 24, 25, 26] (by dsimp) (by dsimp) ?_
    refine T.region ?_ -- region 5
    refine ro rfl rfl (OpOk.step (ok_move (.inl rfl))) ?_
    refine ro rfl rfl (OpOk.step (ok_move (.inl rfl))) ?_
    refine ro rfl rfl (ok_call rfl rfl rfl ((pkint_frz htk (by omega)).plain (by simp [renL, AV.ren, renL_ints]) (by simp [AV.ren, renL_ints]))) ?_
    refine ro rfl rfl (OpOk.step (ok_move (.inr rfl))) ?_
    refine ro_nil ?_
    refine keepK hK7 [1, 3, 24, 25, 26] (by dsimp) (by dsimp) ?_
    refine T.region ?_ -- region 6
    refine ro rfl rfl (OpOk.step (ok_add64 rfl ti_int rfl rfl (by omega) (by omega))) ?_
    refine ro rfl rfl (OpOk.step (ok_move (.inl rfl))) ?_
    refine ro_nil ?_
    exact ⟨i + 1, by omega, by omega, TEnt.toH rfl ⟨rfl, rfl, rfl, rfl, rfl, trivial⟩⟩
  · (try simp only [decide_eq_true_eq, decide_eq_false_iff_not, beq_iff_eq, beq_eq_false_iff_ne, bne_iff_ne, bne_eq_false_iff_eq, ne_eq, Bool.not_eq_true', Bool.not_eq_false'] at hc)
    have hi9 : i = 9 := by omega
    subst hi9
    have hel' := hel 9
    rw [List.take_of_length_le (by omega)] at hel' ⊢
    refine T.exit ?_
    refine keepK hK3 [1, 3] (by dsimp) (by dsimp) ?_
    refine T.seq fun K9 hK9 => ?_
    refine T.region ?_ -- region 7
    refine ro rfl rfl (OpOk.step (ok_move (.inl rfl))) ?_
    refine ro rfl rfl (OpOk.step (ok_fieldAddr rfl ti_api_Rec rfl rfl ti_Luint8 (by decide) rfl)) ?_
    refine ro rfl rfl (OpOk.step (ok_load rfl ti_Luint8 rfl rfl)) ?_
    refine ro rfl rfl (ok_call rfl rfl rfl ((pkbytes_frz (l := encs L) rfl (by omega) hb).plain (by simp [renL, AV.ren, renL_ints]) (by simp [AV.ren, renL_ints]))) ?_
    refine ro rfl rfl (OpOk.step (ok_move (.inr rfl))) ?_
    refine ro_nil ?_
    refine keepK hK9 [2] (by dsimp) (by dsimp) ?_
    refine T.ret (hQ _ _ _ rfl ?_).1 -- ret 1
    exact TEnt.fin [] (by decide) (by simp) rfl ⟨by simp [tupA, AV.ren, renL_ints], trivial⟩
theorem fits_ok (b : Int) : CSpec Try.prog 15 [] [.int b] [] (.b (decide (1 ≤ b ∧ b ≤ 4096))) := by
  refine CSpec.body Try.func15 rfl rfl rfl rfl rfl fun Q hQ => ?_
  refine T.seq fun K1 hK1 => ?_
  refine T.region ?_ -- region 0
  refine ro rfl rfl (OpOk.step (ok_moveb (c := false) (.inr rfl) rfl)) ?_
  refine ro_nil ?_
  refine keepK hK1 [0] (by dsimp) (by dsimp) ?_
  refine T.seq fun K2 hK2 => ?_
  refine T.region ?_ -- region 1
  refine ro rfl rfl (OpOk.step (ok_move (.inl rfl))) ?_
  refine ro rfl rfl (OpOk.step (ok_binOp rfl ti_int rfl)) ?_
  refine ro_case rfl rfl (OpOk.step (ok_moveb (.inl rfl) rfl)) (fun hb => ?_) (fun hb => ?_)
  · (try simp only [decide_eq_true_eq, decide_eq_false_iff_not, beq_iff_eq, beq_eq_false_iff_ne, bne_iff_ne, bne_eq_false_iff_eq, ne_eq, Bool.not_eq_true', Bool.not_eq_false'] at hb)
    refine ro rfl rfl (OpOk.step (ok_move (.inl rfl))) ?_
    refine ro rfl rfl (OpOk.step (ok_binOp rfl ti_int rfl)) ?_
    refine ro rfl rfl (OpOk.step (ok_pick rfl rfl)) ?_
    refine ro rfl rfl (OpOk.step (ok_move (.inr rfl))) ?_
    refine ro_nil ?_
    refine keepK hK2 [2] (by dsimp) (by dsimp) ?_
    refine T.ret (hQ _ _ _ rfl ?_).1 -- ret 1
    exact by first | (rw [decide_eq_false (by omega)]; exact TEnt.toH rfl ⟨rfl, trivial⟩) | (have e : decide (1 ≤ b ∧ b ≤ 4096) = decide (b ≤ 4096) := (by rw [decide_eq_decide]; omega); rw [e]; exact TEnt.toH rfl ⟨rfl, trivial⟩)
  · (try simp only [decide_eq_true_eq, decide_eq_false_iff_not, beq_iff_eq, beq_eq_false_iff_ne, bne_iff_ne, bne_eq_false_iff_eq, ne_eq, Bool.not_eq_true', Bool.not_eq_false'] at hb)
    refine ro_skip rfl rfl ?_
    refine ro_skip rfl rfl ?_
    refine ro rfl rfl (OpOk.step (ok_pickb (t := false) (d := false) rfl rfl rfl)) ?_
    refine ro rfl rfl (OpOk.step (ok_moveb (c := false) (.inr rfl) rfl)) ?_
    refine ro_nil ?_
    refine keepK hK2 [2] (by dsimp) (by dsimp) ?_
    refine T.ret (hQ _ _ _ rfl ?_).1 -- ret 2
    exact by first | (rw [decide_eq_false (by omega)]; exact TEnt.toH rfl ⟨rfl, trivial⟩) | (have e : decide (1 ≤ b ∧ b ≤ 4096) = decide (b ≤ 4096) := (by rw [decide_eq_decide]; omega); rw [e]; exact TEnt.toH rfl ⟨rfl, trivial⟩)
def crcV (l : List Int) : Int := 4294967295 - l.foldl step 4294967295
theorem crcV_bd (l : List Int) : 0 ≤ crcV l ∧ crcV l ≤ 4294967295 := by
  have := fold_u l 4294967295 ⟨by omega, by omega⟩
  unfold crcV
  unfold U32 at this
  omega
theorem crcOf_ok {l : List Int} (hb : Bytes l) (hl : l.length ≤ 140737488355328) : CSpec Try.prog 19 [] [.fz 1 (ints .u8 l)] [] (.v (.int .u32 (crcV l))) := crc_of l hb hl
theorem refOf_ok {l : List Int} (hb : Bytes l) (hl : l.length ≤ 140737488355328) : CSpec Try.prog 23 [] [.fz 1 (ints .u8 l)] [] (.v (.int .u32 (crcV l))) := ref_of l hb hl
def headR (p : List Int) : List Int := enc p.length 8 ++ enc (crcV p) 8
theorem headR_len (p : List Int) : (headR p).length = 16 := by simp [headR]
/-- A record as bytes. -/
def putR (x : Rc) (b : Int) : List Int := if PR x ∧ 1 ≤ b ∧ b ≤ 4096 then padL (headR (payR x) ++ payR x) b.toNat else []
theorem putR_bad {x : Rc} {b : Int} (h : ¬ (PR x ∧ 1 ≤ b ∧ b ≤ 4096)) : putR x b = [] := if_neg h
theorem putR_good {x : Rc} {b : Int} (h : PR x ∧ 1 ≤ b ∧ b ≤ 4096) : putR x b = padL (headR (payR x) ++ payR x) b.toNat := if_pos h
theorem wrap_crc (p : List Int) : IntKind.i64.wrap (crcV p) = crcV p := by
  have := crcV_bd p
  exact wrap_i64 (by omega) (by omega)
theorem put_bad (x : Rc) (b : Int) (hB : x.body.length ≤ 140737488355328) (h : ¬ (PR x ∧ 1 ≤ b ∧ b ≤ 4096)) : CSpec Try.prog 30 [] [.agg (RcC x), .int b] [] (.v (.slice none 0 0)) := by
  refine CSpec.body Try.func30 rfl rfl rfl rfl rfl fun Q hQ => ?_
  refine T.seq fun K1 hK1 => ?_
  refine T.region ?_ -- region 0
  refine ro rfl rfl (OpOk.step (ok_box (n := 10) rfl rfl (by decide))) ?_
  refine ro rfl rfl (OpOk.step (ok_move (.inr rfl))) ?_
  refine ro_nil ?_
  refine keepK hK1 [1, 2] (by dsimp) (by dsimp) ?_
  refine T.seq fun K2 hK2 => ?_
  refine T.seq fun K3 hK3 => ?_
  refine T.region ?_ -- region 1
  refine ro rfl rfl (OpOk.step (ok_load rfl ti_api_Rec rfl rfl)) ?_
  refine ro rfl rfl (ok_call rfl rfl rfl ((right_ok x hB).plain (by show renL (pos []) [.agg (RcC x)] = _; simp [renL, AV.ren, RcC_ren]) rfl)) ?_
  refine ro rfl rfl (OpOk.step (ok_unOp rfl rfl)) ?_
  refine ro_case rfl rfl (OpOk.step (ok_moveb (.inl rfl) rfl)) (fun hb => ?_) (fun hb => ?_)
  · (try simp only [decide_eq_true_eq, decide_eq_false_iff_not, beq_iff_eq, beq_eq_false_iff_ne, bne_iff_ne, bne_eq_false_iff_eq, ne_eq, Bool.not_eq_true', Bool.not_eq_false'] at hb)
    refine ro_skip rfl rfl ?_
    refine ro_skip rfl rfl ?_
    refine ro_skip rfl rfl ?_
    refine ro rfl rfl (OpOk.step (ok_pickb (t := true) (d := true) rfl rfl rfl)) ?_
    refine ro_nil ?_
    refine keepK hK3 [1, 2, 14] (by dsimp) (by dsimp) ?_
    refine T.cond_true rfl ?_
    refine T.seq fun K4 hK4 => ?_
    refine T.region ?_ -- region 2
    refine ro rfl rfl (OpOk.step (ok_move (.inr rfl))) ?_
    refine ro_nil ?_
    refine keepK hK4 [4] (by dsimp) (by dsimp) ?_
    refine T.ret (hQ _ _ _ rfl ?_).1 -- ret 1
    exact TEnt.fin [] (by decide) (by simp) rfl ⟨rfl, trivial⟩
  · (try simp only [decide_eq_true_eq, decide_eq_false_iff_not, beq_iff_eq, beq_eq_false_iff_ne, bne_iff_ne, bne_eq_false_iff_eq, ne_eq, Bool.not_eq_true', Bool.not_eq_false'] at hb)
    have h' : ¬ (1 ≤ b ∧ b ≤ 4096) := fun h2 => h ⟨hb, h2⟩
    refine ro rfl rfl (OpOk.step (ok_move (.inl rfl))) ?_
    refine ro rfl rfl (ok_call rfl rfl rfl ((fits_ok b).plain rfl rfl)) ?_
    refine ro rfl rfl (OpOk.step (OpOk.bool (d := true) (ok_unOp rfl rfl) (by simp; omega))) ?_
    refine ro rfl rfl (OpOk.step (ok_pickb (t := false) (d := true) rfl rfl rfl)) ?_
    refine ro_nil ?_
    refine keepK hK3 [1, 2, 14] (by dsimp) (by dsimp) ?_
    refine T.cond_true rfl ?_
    refine T.seq fun K5 hK5 => ?_
    refine T.region ?_ -- region 2
    refine ro rfl rfl (OpOk.step (ok_move (.inr rfl))) ?_
    refine ro_nil ?_
    refine keepK hK5 [4] (by dsimp) (by dsimp) ?_
    refine T.ret (hQ _ _ _ rfl ?_).1 -- ret 2
    exact TEnt.fin [] (by decide) (by simp) rfl ⟨rfl, trivial⟩
theorem put_good (x : Rc) (b : Nat) (hB : Bytes x.body) (h : PR x) (hb : 1 ≤ b ∧ b ≤ 4096) : CSpec Try.prog 30 [] [.agg (RcC x), .int b] [some ⟨1, true, ints .u8 (padL (headR (payR x) ++ payR x) b)⟩] (.sl 0 0 (padL (headR (payR x) ++ payR x) b).length) := by
  have hbl : x.body.length ≤ 1048576 := by unfold PR at h; omega
  obtain ⟨P, hP⟩ : ∃ P, payR x = P := ⟨_, rfl⟩
  have hPl : P.length = 80 + x.body.length := by rw [← hP]; exact payR_len x
  have hPB : Bytes P := hP ▸ payR_bytes hB
  have hH := headR_len P
  rw [hP]
  refine CSpec.body Try.func30 rfl rfl rfl rfl rfl fun Q hQ => ?_
  refine T.seq fun K1 hK1 => ?_
  refine T.region ?_ -- region 0
  refine ro rfl rfl (OpOk.step (ok_box (n := 10) rfl rfl (by decide))) ?_
  refine ro rfl rfl (OpOk.step (ok_move (.inr rfl))) ?_
  refine ro_nil ?_
  refine keepK hK1 [1, 2] (by dsimp) (by dsimp) ?_
  refine T.seq fun K2 hK2 => ?_
  refine T.seq fun K3 hK3 => ?_
  refine T.region ?_ -- region 1
  refine ro rfl rfl (OpOk.step (ok_load rfl ti_api_Rec rfl rfl)) ?_
  refine ro rfl rfl (ok_call rfl rfl rfl (((right_ok x (by omega)).plain (by show renL (pos []) [.agg (RcC x)] = _; simp [renL, AV.ren, RcC_ren]) rfl).eq (x' := .b true) (by rw [decide_eq_true h]) rfl)) ?_
  refine ro rfl rfl (OpOk.step (OpOk.bool (d := false) (ok_unOp rfl rfl) (rfl))) ?_
  refine ro rfl rfl (OpOk.step (ok_moveb (c := false) (.inl rfl) rfl)) ?_
  refine ro rfl rfl (OpOk.step (ok_move (.inl rfl))) ?_
  refine ro rfl rfl (ok_call rfl rfl rfl (((fits_ok b).plain rfl rfl).eq (x' := .b true) (by rw [decide_eq_true (by omega)]) rfl)) ?_
  refine ro rfl rfl (OpOk.step (OpOk.bool (d := false) (ok_unOp rfl rfl) (rfl))) ?_
  refine ro rfl rfl (OpOk.step (ok_pickb (t := false) (d := false) rfl rfl rfl)) ?_
  refine ro_nil ?_
  refine keepK hK3 [1, 2, 14] (by dsimp) (by dsimp) ?_
  refine T.cond_false rfl ?_
  refine T.skip ?_
  refine keepK hK2 [1, 2] (by dsimp) (by dsimp) ?_
  refine T.seq fun K4 hK4 => ?_
  refine T.region ?_ -- region 3
  refine ro rfl rfl (OpOk.step (ok_load rfl ti_api_Rec rfl rfl)) ?_
  refine ro rfl rfl (ok_call rfl rfl rfl (((payload_ok x hbl).plain (by show renL (pos []) [.agg (RcC x)] = _; simp [renL, AV.ren, RcC_ren]) (by simp [AV.ren, renL_ints])).eq (x' := .fz 1 (ints .u8 P)) (by rw [hP]) rfl)) ?_
  refine ro rfl rfl (OpOk.step (ok_move (.inr rfl))) ?_
  refine ro_nil ?_
  refine keepK hK4 [1, 5] (by dsimp) (by dsimp) ?_
  refine T.seq fun K5 hK5 => ?_
  refine T.region ?_ -- region 4
  refine ro rfl rfl (OpOk.step (ok_move (.inl rfl))) ?_
  refine ro rfl rfl (OpOk.step (ok_len' rfl rfl ti_Luint8 rfl (by first | exact ints_length _ _ | exact rowsA_length _ _ | rfl))) ?_
  refine ro rfl rfl (ok_call rfl rfl rfl (((pkint_frz (l := []) (r := enc P.length 8) (v := P.length) rfl (by simp)).plain rfl (by simp [AV.ren, renL_ints])).view (EntL.cons (Ent.nil 1) (EntL.refl _)))) ?_
  refine ro rfl rfl (OpOk.step (ok_move (.inl rfl))) ?_
  refine ro rfl rfl (ok_call rfl rfl rfl ((crcOf_ok hPB (by omega)).plain (by simp [renL, AV.ren, renL_ints]) rfl)) ?_
  refine ro rfl rfl (OpOk.step ((ok_conv_int rfl ti_uint32 ti_int rfl rfl).eq (x' := .int (crcV P)) (by rw [wrap_crc]) rfl)) ?_
  refine ro rfl rfl (ok_call rfl rfl rfl ((pkint_new (enc P.length 8) (crcV P) (by simp)).fresh (x' := .sl 1 0 (headR P).length) (H' := [some ⟨1, true, ints .u8 (headR P)⟩]) (by simp [renL, AV.ren, renL_ints]) rfl (by simp [renH, Blk.ren, renL_ints, headR]))) ?_
  refine ro rfl rfl (OpOk.step (ok_move (.inr rfl))) ?_
  refine ro_nil ?_
  refine keepK hK5 [1, 5, 6] (by dsimp) (by dsimp) ?_
  refine T.seq fun K6 hK6 => ?_
  refine T.region ?_ -- region 5
  refine ro rfl rfl (OpOk.step (ok_move (.inl rfl))) ?_
  refine ro rfl rfl (OpOk.step (ok_move (.inl rfl))) ?_
  refine ro rfl rfl (OpOk.step (by exact ok_append_ints (k := .u8) (xs := headR P) (ys := P) rfl ti_Luint8 rfl ti_uint8 rfl (by decide) rfl ti_Luint8 (by simp) rfl rfl rfl rfl rfl rfl rfl rfl rfl (by simp [headR_len]; omega))) ?_
  refine ro rfl rfl (OpOk.step (ok_move (.inl rfl))) ?_
  refine ro rfl rfl (ok_call rfl rfl rfl ((pad_new (headR P ++ P) b (by omega) (by simp [headR_len]; omega)).lendI (EntL.cons (Ent.lent 2 1 (ints .u8 (headR P ++ P)) rfl (by simp)) (EntL.refl _)) (by simp [renL, AV.ren, renL_ints]))) ?_
  refine ro rfl rfl (OpOk.step (ok_move (.inr rfl))) ?_
  refine ro_nil ?_
  refine keepK hK6 [4] (by dsimp) (by dsimp) ?_
  refine T.ret (hQ _ _ _ rfl ?_).1 -- ret 1
  exact TEnt.fin [3] (by decide) (by simp) (by simp [normH, hget, Blk.ren, renL_ints]) ⟨rfl, trivial⟩
theorem put_ok (x : Rc) (b : Int) (hB : Bytes x.body) (hl : x.body.length ≤ 140737488355328) : CSpec Try.prog 30 [] [.agg (RcC x), .int b] [] (.fz 1 (ints .u8 (putR x b))) := by
  by_cases h : PR x ∧ 1 ≤ b ∧ b ≤ 4096
  · rw [putR_good h]
    obtain ⟨n, rfl⟩ := Int.eq_ofNat_of_zero_le (show 0 ≤ b by omega)
    exact (put_good x n hB h.1 (by omega)).frz' rfl
  · rw [putR_bad h]
    exact (put_bad x b hl h).res (Ent.nil 1)
theorem putR_len (x : Rc) (b : Int) : (putR x b).length ≤ 2000000 := by
  unfold putR
  split
  · rename_i h
    have hx := h.1
    unfold PR at hx
    have h1 := payR_len x
    have h2 := headR_len (payR x)
    have h3 := Nat.mod_lt (b.toNat - (headR (payR x) ++ payR x).length % b.toNat) (show b.toNat > 0 by omega)
    simp only [padL, List.length_append, List.length_replicate] at h3 ⊢
    omega
  · simp
theorem blocks_ok (x : Rc) (b : Int) (hB : Bytes x.body) (hl : x.body.length ≤ 140737488355328) : CSpec Try.prog 14 [] [.agg (RcC x), .int b] [] (.int (if 1 ≤ b ∧ b ≤ 4096 then ((putR x b).length : Int) / b else 0)) := by
  have hpl := putR_len x b
  refine CSpec.body Try.func14 rfl rfl rfl rfl rfl fun Q hQ => ?_
  refine T.seq fun K1 hK1 => ?_
  refine T.region ?_ -- region 0
  refine ro rfl rfl (OpOk.step (ok_box (n := 10) rfl rfl (by decide))) ?_
  refine ro rfl rfl (OpOk.step (ok_move (.inr rfl))) ?_
  refine ro_nil ?_
  refine keepK hK1 [1, 2] (by dsimp) (by dsimp) ?_
  refine T.seq fun K2 hK2 => ?_
  refine T.seq fun K3 hK3 => ?_
  refine T.region ?_ -- region 1
  refine ro rfl rfl (OpOk.step (ok_move (.inl rfl))) ?_
  refine ro rfl rfl (ok_call rfl rfl rfl ((fits_ok b).plain rfl rfl)) ?_
  refine ro rfl rfl (OpOk.step (ok_unOp rfl rfl)) ?_
  refine ro_nil ?_
  refine keepK hK3 [1, 2, 7] (by dsimp) (by dsimp) ?_
  refine T.cond rfl (fun hc => ?_) (fun hc => ?_) -- cond 1
  · (try simp only [decide_eq_true_eq, decide_eq_false_iff_not, beq_iff_eq, beq_eq_false_iff_ne, bne_iff_ne, bne_eq_false_iff_eq, ne_eq, Bool.not_eq_true', Bool.not_eq_false'] at hc)
    rw [if_neg (by omega)] at hQ
    refine T.seq fun K4 hK4 => ?_
    refine T.region ?_ -- region 2
    refine ro rfl rfl (OpOk.step (ok_move (.inr rfl))) ?_
    refine ro_nil ?_
    refine keepK hK4 [4] (by dsimp) (by dsimp) ?_
    refine T.ret (hQ _ _ _ rfl ?_).1 -- ret 1
    exact TEnt.fin [] (by decide) (by simp) rfl ⟨rfl, trivial⟩
  · (try simp only [decide_eq_true_eq, decide_eq_false_iff_not, beq_iff_eq, beq_eq_false_iff_ne, bne_iff_ne, bne_eq_false_iff_eq, ne_eq, Bool.not_eq_true', Bool.not_eq_false'] at hc)
    rw [if_pos (by omega)] at hQ
    refine T.skip ?_
    refine keepK hK2 [1, 2] (by dsimp) (by dsimp) ?_
    refine T.seq fun K5 hK5 => ?_
    refine T.region ?_ -- region 3
    refine ro rfl rfl (OpOk.step (ok_load rfl ti_api_Rec rfl rfl)) ?_
    refine ro rfl rfl (OpOk.step (ok_move (.inl rfl))) ?_
    refine ro rfl rfl (ok_call rfl rfl rfl ((put_ok x b hB hl).plain (by show renL (pos []) [.agg (RcC x), .int b] = _; simp [renL, AV.ren, RcC_ren]) (by simp [AV.ren, renL_ints]))) ?_
    refine ro rfl rfl (OpOk.step (ok_len' rfl rfl ti_Luint8 rfl (by first | exact ints_length _ _ | exact rowsA_length _ _ | rfl))) ?_
    refine ro rfl rfl (OpOk.step (ok_move (.inl rfl))) ?_
    refine ro rfl rfl (OpOk.step (ok_quo64 rfl ti_int rfl rfl (by omega) (by omega) (by omega))) ?_
    refine ro rfl rfl (OpOk.step (ok_move (.inr rfl))) ?_
    refine ro_nil ?_
    refine keepK hK5 [4] (by dsimp) (by dsimp) ?_
    refine T.ret (hQ _ _ _ rfl ?_).1 -- ret 2
    exact TEnt.fin [] (by decide) (by simp) rfl ⟨rfl, trivial⟩
def rc0 : Rc := ⟨0, 0, 0, 0, 0, 0, 0, 0, 0, []⟩
theorem rc0_view {H : Heap} : Ent H (.agg [.int 0, .int 0, .int 0, .int 0, .int 0, .int 0, .int 0, .int 0, .int 0, .v (.slice none 0 0)]) (.agg (RcC rc0)) :=
  Ent.agg (EntL.append (l := [.int 0, .int 0, .int 0, .int 0, .int 0, .int 0, .int 0, .int 0, .int 0]) (EntL.refl _) (EntL.cons (Ent.nil 1) EntL.nil))
theorem live10_val : (if 1 ≤ (64 : Int) ∧ (64 : Int) ≤ 4096 then ((putR rc0 64).length : Int) / 64 else 0) = 2 := by decide +kernel
theorem live10_ok : CSpec Try.prog 6 [] [] [] (.b true) := by
  refine CSpec.body Try.func6 rfl rfl rfl rfl rfl fun Q hQ => ?_
  refine T.seq fun K1 hK1 => ?_
  refine T.region ?_ -- region 0
  refine ro rfl rfl (OpOk.step (ok_moveb (c := false) (.inr rfl) rfl)) ?_
  refine ro_nil ?_
  refine keepK hK1 [] (by dsimp) (by dsimp) ?_
  refine T.seq fun K2 hK2 => ?_
  refine T.region ?_ -- region 1
  refine ro rfl rfl (OpOk.step (ok_build rfl ti_api_Rec rfl)) ?_
  refine ro rfl rfl (ok_call rfl rfl rfl ((((blocks_ok rc0 64 Bytes.nil (by simp [rc0])).plain (by show renL (pos []) [.agg (RcC rc0), .int 64] = _; simp [renL, AV.ren, RcC_ren]) rfl).view (EntL.cons rc0_view (EntL.refl _))).eq (x' := .int 2) (by rw [live10_val]) rfl)) ?_
  refine ro rfl rfl (OpOk.step (OpOk.bool (d := true) (ok_binOp rfl ti_int rfl) (rfl))) ?_
  refine ro rfl rfl (OpOk.step (ok_moveb (c := true) (.inr rfl) rfl)) ?_
  refine ro_nil ?_
  refine keepK hK2 [0] (by dsimp) (by dsimp) ?_
  refine T.ret (hQ _ _ _ rfl ?_).1
  exact TEnt.fin [] (by decide) (by simp) rfl ⟨rfl, trivial⟩ -- ?? ret 1
theorem rlist_frz' {x : Rc} {L : List Int} (hL : x.l = L) {H : Heap} : CallOk Try.prog 25 H [.agg (RcC x)] (.fz 1 (ints .i64 L)) H := hL ▸ (rlist_frz x).plain (by simp [renL, AV.ren, RcC_ren]) (by simp [AV.ren, renL_ints])
theorem rrput_bad (x : Rc) (b : Int) (hB : x.body.length ≤ 140737488355328) (h : ¬ (PR x ∧ 1 ≤ b ∧ b ≤ 4096)) : CSpec Try.prog 11 [] [.agg (RcC x), .int b] [] (.v (.slice none 0 0)) := by
  refine CSpec.body Try.func11 rfl rfl rfl rfl rfl fun Q hQ => ?_
  refine T.seq fun K1 hK1 => ?_
  refine T.region ?_ -- region 0
  refine ro rfl rfl (OpOk.step (ok_box (n := 10) rfl rfl (by decide))) ?_
  refine ro rfl rfl (OpOk.step (ok_move (.inr rfl))) ?_
  refine ro_nil ?_
  refine keepK hK1 [1, 2] (by dsimp) (by dsimp) ?_
  refine T.seq fun K2 hK2 => ?_
  refine T.seq fun K3 hK3 => ?_
  refine T.region ?_ -- region 1
  refine ro rfl rfl (OpOk.step (ok_load rfl ti_api_Rec rfl rfl)) ?_
  refine ro rfl rfl (ok_call rfl rfl rfl ((rright_ok x hB).plain (by show renL (pos []) [.agg (RcC x)] = _; simp [renL, AV.ren, RcC_ren]) rfl)) ?_
  refine ro rfl rfl (OpOk.step (ok_unOp rfl rfl)) ?_
  refine ro_case rfl rfl (OpOk.step (ok_moveb (.inl rfl) rfl)) (fun hb => ?_) (fun hb => ?_)
  · (try simp only [decide_eq_true_eq, decide_eq_false_iff_not, beq_iff_eq, beq_eq_false_iff_ne, bne_iff_ne, bne_eq_false_iff_eq, ne_eq, Bool.not_eq_true', Bool.not_eq_false'] at hb)
    refine ro_skip rfl rfl ?_
    refine ro_skip rfl rfl ?_
    refine ro rfl rfl (OpOk.step (ok_pickb (t := true) (d := true) rfl rfl rfl)) ?_
    refine ro rfl rfl (OpOk.step (ok_moveb (c := true) (.inl rfl) rfl)) ?_
    refine ro_skip rfl rfl ?_
    refine ro_skip rfl rfl ?_
    refine ro rfl rfl (OpOk.step (ok_pickb (t := true) (d := true) rfl rfl rfl)) ?_
    refine ro_nil ?_
    refine keepK hK3 [1, 2, 19] (by dsimp) (by dsimp) ?_
    refine T.cond_true rfl ?_
    refine T.seq fun K4 hK4 => ?_
    refine T.region ?_ -- region 2
    refine ro rfl rfl (OpOk.step (ok_move (.inr rfl))) ?_
    refine ro_nil ?_
    refine keepK hK4 [4] (by dsimp) (by dsimp) ?_
    refine T.ret (hQ _ _ _ rfl ?_).1 -- ret 1
    exact TEnt.fin [] (by decide) (by simp) rfl ⟨rfl, trivial⟩
  · (try simp only [decide_eq_true_eq, decide_eq_false_iff_not, beq_iff_eq, beq_eq_false_iff_ne, bne_iff_ne, bne_eq_false_iff_eq, ne_eq, Bool.not_eq_true', Bool.not_eq_false'] at hb)
    have h' : ¬ (1 ≤ b ∧ b ≤ 4096) := fun h2 => h ⟨hb, h2⟩
    refine ro rfl rfl (OpOk.step (ok_move (.inl rfl))) ?_
    refine ro rfl rfl (OpOk.step (ok_binOp rfl ti_int rfl)) ?_
    refine ro rfl rfl (OpOk.step (ok_pick rfl rfl)) ?_
    refine ro_case rfl rfl (OpOk.step (ok_moveb (.inl rfl) rfl)) (fun hb => ?_) (fun hb => ?_)
    · (try simp only [decide_eq_true_eq, decide_eq_false_iff_not, beq_iff_eq, beq_eq_false_iff_ne, bne_iff_ne, bne_eq_false_iff_eq, ne_eq, Bool.not_eq_true', Bool.not_eq_false'] at hb)
      refine ro_skip rfl rfl ?_
      refine ro_skip rfl rfl ?_
      refine ro rfl rfl (OpOk.step (ok_pickb (t := true) (d := true) rfl rfl rfl)) ?_
      refine ro_nil ?_
      refine keepK hK3 [1, 2, 19] (by dsimp) (by dsimp) ?_
      refine T.cond_true rfl ?_
      refine T.seq fun K5 hK5 => ?_
      refine T.region ?_ -- region 2
      refine ro rfl rfl (OpOk.step (ok_move (.inr rfl))) ?_
      refine ro_nil ?_
      refine keepK hK5 [4] (by dsimp) (by dsimp) ?_
      refine T.ret (hQ _ _ _ rfl ?_).1 -- ret 2
      exact TEnt.fin [] (by decide) (by simp) rfl ⟨rfl, trivial⟩
    · (try simp only [decide_eq_true_eq, decide_eq_false_iff_not, beq_iff_eq, beq_eq_false_iff_ne, bne_iff_ne, bne_eq_false_iff_eq, ne_eq, Bool.not_eq_true', Bool.not_eq_false'] at hb)
      have h'' : b > 4096 := by omega
      refine ro rfl rfl (OpOk.step (ok_move (.inl rfl))) ?_
      refine ro rfl rfl (OpOk.step (ok_binOp rfl ti_int rfl)) ?_
      refine ro rfl rfl (OpOk.step (ok_pick rfl rfl)) ?_
      refine ro_nil ?_
      refine keepK hK3 [1, 2, 19] (by dsimp) (by dsimp) ?_
      refine T.cond rfl (fun hc => ?_) (fun hc => ?_) -- cond 1
      · (try simp only [decide_eq_true_eq, decide_eq_false_iff_not, beq_iff_eq, beq_eq_false_iff_ne, bne_iff_ne, bne_eq_false_iff_eq, ne_eq, Bool.not_eq_true', Bool.not_eq_false'] at hc)
        refine T.seq fun K6 hK6 => ?_
        refine T.region ?_ -- region 2
        refine ro rfl rfl (OpOk.step (ok_move (.inr rfl))) ?_
        refine ro_nil ?_
        refine keepK hK6 [4] (by dsimp) (by dsimp) ?_
        refine T.ret (hQ _ _ _ rfl ?_).1 -- ret 3
        exact TEnt.fin [] (by decide) (by simp) rfl ⟨rfl, trivial⟩
      · (try simp only [decide_eq_true_eq, decide_eq_false_iff_not, beq_iff_eq, beq_eq_false_iff_ne, bne_iff_ne, bne_eq_false_iff_eq, ne_eq, Bool.not_eq_true', Bool.not_eq_false'] at hc)
        exact absurd h'' hc
theorem rrput_good (x : Rc) (b : Nat) (hB : Bytes x.body) (h : PR x) (hb : 1 ≤ b ∧ b ≤ 4096) : CSpec Try.prog 11 [] [.agg (RcC x), .int b] [some ⟨1, true, ints .u8 (padL (headR (payR x) ++ payR x) b)⟩] (.sl 0 0 (padL (headR (payR x) ++ payR x) b).length) := by
  have hbl : x.body.length ≤ 1048576 := by unfold PR at h; omega
  obtain ⟨L, hL⟩ : ∃ L, x.l = L := ⟨_, rfl⟩
  have hLl : L.length = 9 := by rw [← hL]; rfl
  obtain ⟨P, hP⟩ : ∃ P, payR x = P := ⟨_, rfl⟩
  have hPL : encs L ++ (enc x.body.length 8 ++ x.body) = P := by rw [← hP, ← hL]; simp [payR]
  have hPl : P.length = 80 + x.body.length := by rw [← hP]; exact payR_len x
  have hPB : Bytes P := hP ▸ payR_bytes hB
  have hH := headR_len P
  have hel : ∀ i, (encs (L.take i)).length ≤ 72 := fun i => by rw [encs_len, List.length_take]; omega
  rw [hP]
  refine CSpec.body Try.func11 rfl rfl rfl rfl rfl fun Q hQ => ?_
  refine T.seq fun K1 hK1 => ?_
  refine T.region ?_ -- region 0
  refine ro rfl rfl (OpOk.step (ok_box (n := 10) rfl rfl (by decide))) ?_
  refine ro rfl rfl (OpOk.step (ok_move (.inr rfl))) ?_
  refine ro_nil ?_
  refine keepK hK1 [1, 2] (by dsimp) (by dsimp) ?_
  refine T.seq fun K2 hK2 => ?_
  refine T.seq fun K3 hK3 => ?_
  refine T.region ?_ -- region 1
  refine ro rfl rfl (OpOk.step (ok_load rfl ti_api_Rec rfl rfl)) ?_
  refine ro rfl rfl (ok_call rfl rfl rfl (((rright_ok x (by omega)).plain (by show renL (pos []) [.agg (RcC x)] = _; simp [renL, AV.ren, RcC_ren]) rfl).eq (x' := .b true) (by rw [decide_eq_true h]) rfl)) ?_
  refine ro rfl rfl (OpOk.step (OpOk.bool (d := false) (ok_unOp rfl rfl) (rfl))) ?_
  refine ro rfl rfl (OpOk.step (ok_moveb (c := false) (.inl rfl) rfl)) ?_
  refine ro rfl rfl (OpOk.step (ok_move (.inl rfl))) ?_
  refine ro rfl rfl (OpOk.step (OpOk.bool (d := false) (ok_binOp rfl ti_int rfl) (by simp; omega))) ?_
  refine ro rfl rfl (OpOk.step (ok_pickb (t := false) (d := false) rfl rfl rfl)) ?_
  refine ro rfl rfl (OpOk.step (ok_moveb (c := false) (.inl rfl) rfl)) ?_
  refine ro rfl rfl (OpOk.step (ok_move (.inl rfl))) ?_
  refine ro rfl rfl (OpOk.step (OpOk.bool (d := false) (ok_binOp rfl ti_int rfl) (by simp; omega))) ?_
  refine ro rfl rfl (OpOk.step (ok_pickb (t := false) (d := false) rfl rfl rfl)) ?_
  refine ro_nil ?_
  refine keepK hK3 [1, 2, 19] (by dsimp) (by dsimp) ?_
  refine T.cond_false rfl ?_
  refine T.skip ?_
  refine keepK hK2 [1, 2] (by dsimp) (by dsimp) ?_
  refine T.seq fun K4 hK4 => ?_
  refine T.region ?_ -- region 3
  refine ro rfl rfl (OpOk.step (ok_move (.inr rfl))) ?_
  refine ro_nil ?_
  refine keepK hK4 [1, 2, 5] (by dsimp) (by dsimp) ?_
  refine T.seq fun K5 hK5 => ?_
  refine T.region ?_ -- region 4
  refine ro rfl rfl (OpOk.step (ok_load rfl ti_api_Rec rfl rfl)) ?_
  refine ro rfl rfl (ok_call rfl rfl rfl (rlist_frz' hL)) ?_
  refine ro rfl rfl (OpOk.step (ok_move (.inr rfl))) ?_
  refine ro_nil ?_
  refine keepK hK5 [1, 2, 5, 6] (by dsimp) (by dsimp) ?_
  refine T.seq fun K6 hK6 => ?_
  refine T.seq fun K7 hK7 => ?_
  refine T.region ?_ -- region 5
  refine ro rfl rfl (OpOk.step (ok_move (.inr rfl))) ?_
  refine ro_nil ?_
  refine keepK hK7 [1, 2, 5, 6, 7] (by dsimp) (by dsimp) ?_
  refine T.block ?_
  refine T.loopI (ι := Nat) (fun i => i ≤ 9) (fun i => 9 - i) (fun i => ([(1, .int b), (2, .ref 0 0 0), (5, .sl 1 0 (encs (L.take i)).length), (6, .fz 1 (ints .i64 L)), (7, .int i)], [some (RcB x), some ⟨1, true, ints .u8 (encs (L.take i))⟩])) 0 (Nat.zero_le _) ((TEnt.empty 5 1 (by decide) (.inr rfl)).trans (TEnt.toH rfl ⟨rfl, rfl, rfl, rfl, rfl, trivial⟩)) (fun i hi => ?_) -- loop 1
  refine T.seq fun K8 hK8 => ?_
  refine T.seq fun K9 hK9 => ?_
  refine T.region ?_ -- region 6
  refine ro rfl rfl (OpOk.step (ok_move (.inl rfl))) ?_
  refine ro rfl rfl (OpOk.step (ok_move (.inl rfl))) ?_
  refine ro rfl rfl (OpOk.step (ok_len' rfl rfl ti_Lint rfl (by first | exact ints_length _ _ | exact rowsA_length _ _ | rfl))) ?_
  refine ro rfl rfl (OpOk.step (ok_binOp rfl ti_int rfl)) ?_
  refine ro_nil ?_
  refine keepK hK9 [1, 2, 5, 6, 7, 25] (by dsimp) (by dsimp) ?_
  refine T.cond rfl (fun hc => ?_) (fun hc => ?_) -- cond 1
  · (try simp only [decide_eq_true_eq, decide_eq_false_iff_not, beq_iff_eq, beq_eq_false_iff_ne, bne_iff_ne, bne_eq_false_iff_eq, ne_eq, Bool.not_eq_true', Bool.not_eq_false'] at hc)
    have hi9 : i < 9 := by omega
    obtain ⟨v, hv⟩ : ∃ v, L[i]? = some v := ⟨_, List.getElem?_eq_getElem (by omega)⟩
    have hen : encs (L.take (i + 1)) = encs (L.take i) ++ enc v 8 := by rw [take_succ_get hv, encs_snoc]
    have hel' := hel i
    refine T.skip ?_
    refine keepK hK8 [1, 2, 5, 6, 7] (by dsimp) (by dsimp) ?_
    refine T.seq fun K10 hK10 => ?_
    refine T.block ?_
    refine T.region ?_ -- region 8
    refine ro rfl rfl (OpOk.step (ok_move (.inl rfl))) ?_
    refine ro rfl rfl (OpOk.step (ok_move (.inl rfl))) ?_
    refine ro rfl rfl (OpOk.step (ok_move (.inl rfl))) ?_
    refine ro rfl rfl (OpOk.step (by exact ok_index_ints rfl ti_Lint rfl ti_int rfl rfl rfl (by omega) (by simpa using hv))) ?_
    refine ro rfl rfl (OpOk.step (ok_load rfl ti_int rfl rfl)) ?_
    refine ro rfl rfl (ok_call rfl rfl rfl ((rint_frz v).plain rfl (by simp [AV.ren, renL_ints]))) ?_
    refine ro rfl rfl (OpOk.step (by exact ok_append_ints (k := .u8) (xs := encs (L.take i)) (ys := enc v 8) rfl ti_Luint8 rfl ti_uint8 rfl (by decide) rfl ti_Luint8 (by simp) rfl rfl rfl rfl rfl rfl rfl rfl rfl (by simp <;> omega))) ?_
    refine ro rfl rfl (OpOk.step (ok_move (.inr rfl))) ?_
    refine ro_nil ?_
    refine keepK hK10 [1, 2, 5, 6, 7] (by dsimp) (by dsimp) ?_
    refine T.region ?_ -- region 7
    refine ro rfl rfl (OpOk.step (ok_move (.inl rfl))) ?_
    refine ro rfl rfl (OpOk.step (ok_add64 rfl ti_int rfl rfl (by omega) (by omega))) ?_
    refine ro rfl rfl (OpOk.step (ok_move (.inr rfl))) ?_
    refine ro_nil ?_
    exact ⟨i + 1, by omega, by omega, TEnt.fin [0, 2] (by decide) (by simp) (by rw [hen]; simp [normH, hget, IB_ren, RcB_ren]) ⟨rfl, rfl, by rw [hen]; rfl, by simp [AV.ren, renL_ints], rfl, trivial⟩⟩
  · (try simp only [decide_eq_true_eq, decide_eq_false_iff_not, beq_iff_eq, beq_eq_false_iff_ne, bne_iff_ne, bne_eq_false_iff_eq, ne_eq, Bool.not_eq_true', Bool.not_eq_false'] at hc)
    have hi9 : i = 9 := by omega
    subst hi9
    have hel' := hel 9
    rw [List.take_of_length_le (by omega)] at hel' ⊢
    refine T.exit ?_
    refine keepK hK6 [1, 2, 5] (by dsimp) (by dsimp) ?_
    refine T.seq fun K11 hK11 => ?_
    refine T.region ?_ -- region 9
    refine ro rfl rfl (OpOk.step (ok_move (.inl rfl))) ?_
    refine ro rfl rfl (OpOk.step (ok_fieldAddr rfl ti_api_Rec rfl rfl ti_Luint8 (by decide) rfl)) ?_
    refine ro rfl rfl (OpOk.step (ok_load rfl ti_Luint8 rfl rfl)) ?_
    refine ro rfl rfl (ok_call rfl rfl rfl ((rbytesput_frz (l := x.body) rfl (by omega)).plain (by simp [renL, AV.ren, renL_ints]) (by simp [AV.ren, renL_ints]))) ?_
    refine ro rfl rfl (OpOk.step ((ok_append_ints (k := .u8) (xs := encs L) (ys := enc x.body.length 8 ++ x.body) rfl ti_Luint8 rfl ti_uint8 rfl (by decide) rfl ti_Luint8 (by simp) rfl rfl rfl rfl rfl rfl rfl rfl rfl (by simp; omega)).eq (x' := .sl 2 0 P.length) (H'' := [some (RcB x), none, some ⟨1, true, ints .u8 P⟩]) (by rw [hPL]; rfl) (by rw [hPL]; rfl))) ?_
    refine ro rfl rfl (OpOk.step (ok_move (.inr rfl))) ?_
    refine ro_nil ?_
    refine keepK hK11 [1, 5] (by dsimp) (by dsimp) ?_
    refine T.seq fun K12 hK12 => ?_
    refine T.region ?_ -- region 10
    refine ro rfl rfl (OpOk.step (ok_move (.inl rfl))) ?_
    refine ro rfl rfl (OpOk.step (ok_len' rfl rfl ti_Luint8 rfl (by first | exact ints_length _ _ | exact rowsA_length _ _ | rfl))) ?_
    refine ro rfl rfl (ok_call rfl rfl rfl ((rint_new P.length).fresh (x' := .sl 3 0 8) (H' := [some ⟨1, true, ints .u8 (enc P.length 8)⟩]) rfl rfl (by simp [renH, Blk.ren, renL_ints]))) ?_
    refine ro rfl rfl (OpOk.step (ok_move (.inl rfl))) ?_
    refine ro rfl rfl (ok_call rfl rfl rfl ((refOf_ok hPB (by omega)).lendV (EntL.cons (Ent.lent 2 1 (ints .u8 P) rfl (by simp)) EntL.nil) (by simp [renL, AV.ren, renL_ints]))) ?_
    refine ro rfl rfl (OpOk.step ((ok_conv_int rfl ti_uint32 ti_int rfl rfl).eq (x' := .int (crcV P)) (by rw [wrap_crc]) rfl)) ?_
    refine ro rfl rfl (ok_call rfl rfl rfl ((rint_frz (crcV P)).plain rfl (by simp [AV.ren, renL_ints]))) ?_
    refine ro rfl rfl (OpOk.step ((ok_append_ints (k := .u8) (xs := enc P.length 8) (ys := enc (crcV P) 8) rfl ti_Luint8 rfl ti_uint8 rfl (by decide) rfl ti_Luint8 (by simp) rfl rfl rfl rfl rfl rfl rfl rfl rfl (by simp)).eq (x' := .sl 4 0 (headR P).length) (H'' := [some (RcB x), none, some ⟨1, true, ints .u8 P⟩, none, some ⟨1, true, ints .u8 (headR P)⟩]) rfl rfl)) ?_
    refine ro rfl rfl (OpOk.step (ok_move (.inr rfl))) ?_
    refine ro_nil ?_
    refine keepK hK12 [1, 5, 8] (by dsimp) (by dsimp) ?_
    refine T.seq fun K13 hK13 => ?_
    refine T.region ?_ -- region 11
    refine ro rfl rfl (OpOk.step (ok_move (.inl rfl))) ?_
    refine ro rfl rfl (OpOk.step (ok_move (.inl rfl))) ?_
    refine ro rfl rfl (OpOk.step (by exact ok_append_ints (k := .u8) (xs := headR P) (ys := P) rfl ti_Luint8 rfl ti_uint8 rfl (by decide) rfl ti_Luint8 (by simp) (rowA_sl rfl rfl (by simp)) rfl rfl rfl rfl rfl rfl rfl rfl (by simp [headR_len]; omega))) ?_
    refine ro rfl rfl (OpOk.step (ok_move (.inl rfl))) ?_
    refine ro rfl rfl (ok_call rfl rfl rfl ((rpad_new (headR P ++ P) b (by omega) (by simp [headR_len]; omega)).lendI (EntL.cons (Ent.lent 5 1 (ints .u8 (headR P ++ P)) rfl (by simp)) (EntL.refl _)) (by simp [renL, AV.ren, renL_ints]))) ?_
    refine ro rfl rfl (OpOk.step (ok_move (.inr rfl))) ?_
    refine ro_nil ?_
    refine keepK hK13 [4] (by dsimp) (by dsimp) ?_
    refine T.ret (hQ _ _ _ rfl ?_).1 -- ret 1
    exact TEnt.fin [6] (by decide) (by simp) (by simp [normH, hget, Blk.ren, renL_ints]) ⟨rfl, trivial⟩
theorem rrput_ok (x : Rc) (b : Int) (hB : Bytes x.body) (hl : x.body.length ≤ 140737488355328) : CSpec Try.prog 11 [] [.agg (RcC x), .int b] [] (.fz 1 (ints .u8 (putR x b))) := by
  by_cases h : PR x ∧ 1 ≤ b ∧ b ≤ 4096
  · rw [putR_good h]
    obtain ⟨n, rfl⟩ := Int.eq_ofNat_of_zero_le (show 0 ≤ b by omega)
    exact (rrput_good x n hB h.1 (by omega)).frz' rfl
  · rw [putR_bad h]
    exact (rrput_bad x b hl h).res (Ent.nil 1)
def sameR (x y : Rc) : Bool := decide (x.l = y.l) && strEq x.body y.body
theorem sameR_refl (x : Rc) : sameR x x = true := by simp [sameR, strEq_refl]
theorem l_iff {x y : Rc} : x.l = y.l ↔ x.kind = y.kind ∧ x.slot = y.slot ∧ x.seven = y.seven := by
  simp only [Rc.l, Rc.seven, List.cons.injEq, and_true]
  constructor
  · rintro ⟨h0, h1, h2, h3, h4, h5, h6, h7, h8⟩; exact ⟨h0, h5, h1, h2, h3, h4, h6, h7, h8⟩
  · rintro ⟨h0, h5, h1, h2, h3, h4, h6, h7, h8⟩; exact ⟨h0, h1, h2, h3, h4, h5, h6, h7, h8⟩
theorem rsame_ok (x y : Rc) : CSpec Try.prog 9 [] [.agg (RcC x), .agg (RcC y)] [] (.b (sameR x y)) := by
  obtain ⟨L, hL⟩ : ∃ L, x.l = L := ⟨_, rfl⟩
  obtain ⟨M, hM⟩ : ∃ M, y.l = M := ⟨_, rfl⟩
  have hLl : L.length = 9 := by rw [← hL]; rfl
  have hMl : M.length = 9 := by rw [← hM]; rfl
  refine CSpec.body Try.func9 rfl rfl rfl rfl rfl fun Q hQ => ?_
  refine T.seq fun K1 hK1 => ?_
  refine T.region ?_ -- region 0
  refine ro rfl rfl (OpOk.step (ok_box (n := 10) rfl rfl (by decide))) ?_
  refine ro rfl rfl (OpOk.step (ok_box (n := 10) rfl rfl (by decide))) ?_
  refine ro rfl rfl (OpOk.step (ok_moveb (c := false) (.inr rfl) rfl)) ?_
  refine ro_nil ?_
  refine keepK hK1 [2, 3] (by dsimp) (by dsimp) ?_
  refine T.seq fun K2 hK2 => ?_
  refine T.drawH mixed [] ?_ -- region 1
  refine any_take 0 rfl (by first | rfl | decide +kernel) rfl (HeldL.refl _) (fun H' hH => OpOk.step (ok_load rfl ti_api_Rec (locA_held hH rfl) rfl)) ?_
  refine any_take 2 rfl (by first | rfl | decide +kernel) rfl (HeldL.refl _) (fun H' hH => OpOk.step (ok_load rfl ti_api_Rec (locA_held hH rfl) rfl)) ?_
  refine any_one 1 rfl (by first | rfl | decide +kernel) rfl rfl (ok_call rfl rfl rfl (rlist_frz' hL)) (.inr (by first | (simp [HeldL]; done) | (simp only [HeldL, List.map_cons, List.map_nil, List.cons_append, List.nil_append, List.set_cons_zero, List.set_cons_succ]; (repeat' first | trivial | rfl | constructor)))) ?_
  refine any_one 3 rfl (by first | rfl | decide +kernel) rfl rfl (ok_call rfl rfl rfl (rlist_frz' hM)) (.inr (by first | (simp [HeldL]; done) | (simp only [HeldL, List.map_cons, List.map_nil, List.cons_append, List.nil_append, List.set_cons_zero, List.set_cons_succ]; (repeat' first | trivial | rfl | constructor)))) ?_
  refine any_take 4 rfl (by first | rfl | decide +kernel) rfl (by first | exact HeldL.refl _ | exact HeldL.append _ _ | simp [HeldL]) (fun H' hH => OpOk.step (ok_move (.inr rfl))) ?_
  refine any_take 5 rfl (by first | rfl | decide +kernel) rfl (by first | exact HeldL.refl _ | exact HeldL.append _ _ | simp [HeldL]) (fun H' hH => OpOk.step (ok_move (.inr rfl))) ?_
  refine any_done rfl ?_
  refine keepK hK2 [2, 3, 5, 6] (by dsimp) (by dsimp) ?_
  refine T.seq fun K3 hK3 => ?_
  refine T.seq fun K4 hK4 => ?_
  refine T.region ?_ -- region 2
  refine ro rfl rfl (OpOk.step (ok_move (.inr rfl))) ?_
  refine ro_nil ?_
  refine keepK hK4 [2, 3, 5, 6, 7] (by dsimp) (by dsimp) ?_
  refine T.block ?_
  refine T.loopI (ι := Nat) (fun i => i ≤ 9 ∧ L.take i = M.take i) (fun i => 9 - i) (fun i => ([(2, .ref 0 0 0), (3, .ref 1 0 0), (5, .fz 1 (ints .i64 L)), (6, .fz 1 (ints .i64 M)), (7, .int i)], [some (RcB x), some (RcB y)])) 0 ⟨Nat.zero_le _, rfl⟩ (TEnt.toH rfl ⟨rfl, rfl, rfl, rfl, rfl, trivial⟩) (fun i hi => ?_) -- loop 1
  obtain ⟨hi, hall⟩ := hi
  refine T.seq fun K5 hK5 => ?_
  refine T.seq fun K6 hK6 => ?_
  refine T.region ?_ -- region 3
  refine ro rfl rfl (OpOk.step (ok_move (.inl rfl))) ?_
  refine ro rfl rfl (OpOk.step (ok_move (.inl rfl))) ?_
  refine ro rfl rfl (OpOk.step (ok_len' rfl rfl ti_Lint rfl (by first | exact ints_length _ _ | exact rowsA_length _ _ | rfl))) ?_
  refine ro rfl rfl (OpOk.step (ok_binOp rfl ti_int rfl)) ?_
  refine ro_nil ?_
  refine keepK hK6 [2, 3, 5, 6, 7, 15] (by dsimp) (by dsimp) ?_
  refine T.cond rfl (fun hc => ?_) (fun hc => ?_) -- cond 1
  · (try simp only [decide_eq_true_eq, decide_eq_false_iff_not, beq_iff_eq, beq_eq_false_iff_ne, bne_iff_ne, bne_eq_false_iff_eq, ne_eq, Bool.not_eq_true', Bool.not_eq_false'] at hc)
    have hi9 : i < 9 := by omega
    obtain ⟨u, hu⟩ : ∃ u, L[i]? = some u := ⟨_, List.getElem?_eq_getElem (by omega)⟩
    obtain ⟨v, hv⟩ : ∃ v, M[i]? = some v := ⟨_, List.getElem?_eq_getElem (by omega)⟩
    have hst := take_eq_step hall hu hv
    refine T.skip ?_
    refine keepK hK5 [2, 3, 5, 6, 7] (by dsimp) (by dsimp) ?_
    refine T.seq fun K7 hK7 => ?_
    refine T.block ?_
    refine T.seq fun K8 hK8 => ?_
    refine T.drawH mixed [] ?_ -- region 5
    refine any_take 0 rfl (by first | rfl | decide +kernel) rfl (HeldL.refl _) (fun H' hH => OpOk.step (ok_move (.inl rfl))) ?_
    refine any_take 1 rfl (by first | rfl | decide +kernel) rfl (HeldL.refl _) (fun H' hH => OpOk.step (ok_move (.inl rfl))) ?_
    refine any_take 2 rfl (by first | rfl | decide +kernel) rfl (HeldL.refl _) (fun H' hH => OpOk.step (by exact ok_index_ints rfl ti_Lint rfl ti_int rfl rfl rfl (by omega) (by simpa using hu))) ?_
    refine any_take 3 rfl (by first | rfl | decide +kernel) rfl (HeldL.refl _) (fun H' hH => OpOk.step (ok_load rfl ti_int (locA_held hH rfl) rfl)) ?_
    refine any_take 4 rfl (by first | rfl | decide +kernel) rfl (HeldL.refl _) (fun H' hH => OpOk.step (ok_move (.inl rfl))) ?_
    refine any_take 5 rfl (by first | rfl | decide +kernel) rfl (HeldL.refl _) (fun H' hH => OpOk.step (ok_move (.inl rfl))) ?_
    refine any_take 6 rfl (by first | rfl | decide +kernel) rfl (HeldL.refl _) (fun H' hH => OpOk.step (by exact ok_index_ints rfl ti_Lint rfl ti_int rfl rfl rfl (by omega) (by simpa using hv))) ?_
    refine any_take 7 rfl (by first | rfl | decide +kernel) rfl (HeldL.refl _) (fun H' hH => OpOk.step (ok_load rfl ti_int (locA_held hH rfl) rfl)) ?_
    refine any_take 8 rfl (by first | rfl | decide +kernel) rfl (HeldL.refl _) (fun H' hH => OpOk.step (ok_binOp rfl ti_int rfl)) ?_
    refine any_done rfl ?_
    refine keepK hK8 [2, 3, 5, 6, 7, 26] (by dsimp) (by dsimp) ?_
    refine T.cond rfl (fun hc => ?_) (fun hc => ?_) -- cond 2
    · (try simp only [decide_eq_true_eq, decide_eq_false_iff_not, beq_iff_eq, beq_eq_false_iff_ne, bne_iff_ne, bne_eq_false_iff_eq, ne_eq, Bool.not_eq_true', Bool.not_eq_false'] at hc)
      have hno : sameR x y = false := by
        have : x.l ≠ y.l := by rw [hL, hM]; exact ne_of_take hu hv hc
        simp [sameR, this]
      rw [hno] at hQ
      refine T.seq fun K9 hK9 => ?_
      refine T.region ?_ -- region 6
      refine ro rfl rfl (OpOk.step (ok_moveb (c := false) (.inr rfl) rfl)) ?_
      refine ro_nil ?_
      refine keepK hK9 [4] (by dsimp) (by dsimp) ?_
      refine T.ret (hQ _ _ _ rfl ?_).1 -- ret 1
      exact TEnt.fin [] (by decide) (by simp) rfl ⟨rfl, trivial⟩
    · (try simp only [decide_eq_true_eq, decide_eq_false_iff_not, beq_iff_eq, beq_eq_false_iff_ne, bne_iff_ne, bne_eq_false_iff_eq, ne_eq, Bool.not_eq_true', Bool.not_eq_false'] at hc)
      refine T.skip ?_
      refine keepK hK7 [2, 3, 5, 6, 7] (by dsimp) (by dsimp) ?_
      refine T.region ?_ -- region 4
      refine ro rfl rfl (OpOk.step (ok_move (.inl rfl))) ?_
      refine ro rfl rfl (OpOk.step (ok_add64 rfl ti_int rfl rfl (by omega) (by omega))) ?_
      refine ro rfl rfl (OpOk.step (ok_move (.inr rfl))) ?_
      refine ro_nil ?_
      exact ⟨i + 1, ⟨by omega, hst.2 (by simpa using hc)⟩, by omega, TEnt.toH rfl ⟨rfl, rfl, rfl, rfl, rfl, trivial⟩⟩
  · (try simp only [decide_eq_true_eq, decide_eq_false_iff_not, beq_iff_eq, beq_eq_false_iff_ne, bne_iff_ne, bne_eq_false_iff_eq, ne_eq, Bool.not_eq_true', Bool.not_eq_false'] at hc)
    have hi9 : i = 9 := by omega
    subst hi9
    rw [List.take_of_length_le (by omega), List.take_of_length_le (by omega)] at hall
    have hyes : sameR x y = strEq x.body y.body := by unfold sameR; rw [hL, hM, hall]; simp
    rw [hyes] at hQ
    refine T.exit ?_
    refine keepK hK3 [2, 3] (by dsimp) (by dsimp) ?_
    refine T.seq fun K10 hK10 => ?_
    refine T.region ?_ -- region 7
    refine ro rfl rfl (OpOk.step (ok_fieldAddr rfl ti_api_Rec rfl rfl ti_Luint8 (by decide) rfl)) ?_
    refine ro rfl rfl (OpOk.step (ok_load rfl ti_Luint8 rfl rfl)) ?_
    refine ro rfl rfl (OpOk.step (ok_conv_str rfl ti_Luint8 ti_string rfl ti_uint8 rfl rfl rfl rfl (bytesOf_ints _))) ?_
    refine ro rfl rfl (OpOk.step (ok_fieldAddr rfl ti_api_Rec rfl rfl ti_Luint8 (by decide) rfl)) ?_
    refine ro rfl rfl (OpOk.step (ok_load rfl ti_Luint8 rfl rfl)) ?_
    refine ro rfl rfl (OpOk.step (ok_conv_str rfl ti_Luint8 ti_string rfl ti_uint8 rfl rfl rfl rfl (bytesOf_ints _))) ?_
    refine ro rfl rfl (OpOk.step (ok_binOp rfl ti_string rfl)) ?_
    refine ro rfl rfl (OpOk.step (ok_move (.inr rfl))) ?_
    refine ro_nil ?_
    refine keepK hK10 [4] (by dsimp) (by dsimp) ?_
    refine T.ret (hQ _ _ _ rfl ?_).1 -- ret 2
    exact TEnt.fin [] (by decide) (by simp) rfl ⟨rfl, trivial⟩
abbrev Rc10 := Int × Int × Int × Int × Int × Int × Int × Int × Int × List Int
def rcOf (a : Rc10) : Rc := ⟨a.1, a.2.1, a.2.2.1, a.2.2.2.1, a.2.2.2.2.1, a.2.2.2.2.2.1, a.2.2.2.2.2.2.1, a.2.2.2.2.2.2.2.1, a.2.2.2.2.2.2.2.2.1, a.2.2.2.2.2.2.2.2.2⟩
theorem row_len {l : List Int} (h : l.length * 1 ≤ 140737488351232 ∧ ∀ x ∈ l, (Lit.int .u8 x).wf = true) : l.length ≤ 140737488355328 := by omega
theorem row_bytes {l : List Int} (h : l.length * 1 ≤ 140737488351232 ∧ ∀ x ∈ l, (Lit.int .u8 x).wf = true) : Bytes l := bytes_of h.2
end Go.Proofs.Yteonkbgfpocplaa.AmF
