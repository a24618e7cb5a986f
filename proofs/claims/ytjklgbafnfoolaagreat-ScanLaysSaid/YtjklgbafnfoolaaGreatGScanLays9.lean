/- Walks over the abstract machine: records of the log, as bytes. -/
import Derived.Test.YtjklgbafnfoolaaGreatGScanLays8
namespace Go.Proofs.YtjklgbafnfoolaaGreat.AmF
open Go Go.AM
set_option maxRecDepth 100000
set_option linter.unusedSimpArgs false
set_option linter.unusedVariables false
attribute [local simp] tkeep tget tput ev cav argsTM pickA normT putA splice AV.cells ints_length rowsA_length enc_len
/-- Filled up to a multiple. -/
def padL (l : List Int) (u : Nat) : List Int := l ++ List.replicate ((u - l.length % u) % u) 0
theorem mod_add_lt {n u i : Nat} (h : n % u + i < u) : (n + i) % u = n % u + i := by
  rw [Nat.add_mod, Nat.mod_eq_of_lt (a := i) (by omega), Nat.mod_eq_of_lt h]
theorem mod_add_eq {n u i : Nat} (h : n % u + i = u) (hi : i < u) : (n + i) % u = 0 := by
  rw [Nat.add_mod, Nat.mod_eq_of_lt hi, h, Nat.mod_self]
theorem pad_none {l : List Int} {u : Nat} (h : l.length % u = 0) : padL l u = l := by simp [padL, h]
theorem pad_some {l : List Int} {u : Nat} (hu : 0 < u) (h : 0 < l.length % u) : padL l u = l ++ List.replicate (u - l.length % u) 0 := by
  have := Nat.mod_lt l.length hu
  unfold padL
  rw [Nat.mod_eq_of_lt (a := u - l.length % u) (by omega)]
theorem pad_new (l : List Int) (u : Nat) (hu : 1 ≤ u ∧ u ≤ 65536) (hl : l.length ≤ 100000000) : CSpec Tryz.prog 45 [] [.fz 1 (ints .u8 l), .int u] [some ⟨1, true, ints .u8 (padL l u)⟩] (.sl 0 0 (padL l u).length) := by
 obtain ⟨o, ho⟩ : ∃ o, l.length % u = o := ⟨_, rfl⟩
 have hou : o < u := ho ▸ Nat.mod_lt _ (by omega)
 refine CSpec.body Tryz.func45 rfl rfl rfl rfl rfl fun Q hQ => ?_
 refine T.seq fun K1 hK1 => ?_
 refine T.region ?_
 refine rs rfl rfl (ok_move (.inr rfl)) ?_
 refine ro_nil ?_
 refine keepK hK1 [0, 1] (by dsimp) (by dsimp) ?_
 refine T.seq fun K2 hK2 => ?_
 refine T.region ?_
 refine rs rfl rfl (ok_move (.inl rfl)) ?_
 refine rs rfl rfl ((ok_max rfl rfl rfl).eq (x' := .int u) (congrArg AV.int (by omega)) rfl) ?_
 refine rs rfl rfl ((ok_min rfl rfl rfl).eq (x' := .int u) (congrArg AV.int (by omega)) rfl) ?_
 refine rs rfl rfl (ok_move (.inr rfl)) ?_
 refine ro_nil ?_
 refine keepK hK2 [0, 1] (by dsimp) (by dsimp) ?_
 refine T.seq fun K3 hK3 => ?_
 refine T.region ?_
 refine rs rfl rfl (ok_move (.inl rfl)) ?_
 refine ro rfl rfl (ok_call rfl rfl rfl ((clone_new l (by omega)).fresh (x' := .sl 0 0 l.length) (H' := [some ⟨1, true, ints .u8 l⟩]) (by simp [renL, AV.ren, renL_ints]) rfl (by simp [renH, Blk.ren, renL_ints]))) ?_
 refine rs rfl rfl (ok_move (.inr rfl)) ?_
 refine ro_nil ?_
 refine keepK hK3 [1, 5] (by dsimp) (by dsimp) ?_
 refine T.seq fun K4 hK4 => ?_
 refine T.seq fun K5 hK5 => ?_
 refine T.region ?_
 refine rs rfl rfl (ok_move (.inl rfl)) ?_
 refine rs rfl rfl (ok_len' rfl rfl ti_Luint8 rfl (by first | exact ints_length _ _ | exact rowsA_length _ _ | exact Cms_len _ | exact mapLen _ | rfl)) ?_
 refine rs rfl rfl (ok_move (.inl rfl)) ?_
 refine rs rfl rfl ((ok_rem64 rfl ti_int rfl rfl (by omega) (by omega)).eq (x' := .int o) (congrArg AV.int (by rw [← ho]; simp)) rfl) ?_
 refine rs rfl rfl (ok_move (.inr rfl)) ?_
 refine ro_nil ?_
 refine keepK hK5 [1, 5, 6] (by dsimp) (by dsimp) ?_
 refine T.seq fun K6 hK6 => ?_
 refine T.region ?_
 refine rs rfl rfl (ok_move (.inl rfl)) ?_
 refine rs rfl rfl (ok_binOp rfl ti_int rfl) ?_
 refine ro_nil ?_
 refine keepK hK6 [1, 5, 6, 17] (by dsimp) (by dsimp) ?_
 refine T.cond rfl (fun hc => ?_) (fun hc => ?_) -- cond 1
 ·(try simp only [dE] at hc)
  have hp := pad_some (l := l) (u := u) (by omega) (by omega)
  rw [ho] at hp
  rw [hp] at hQ
  refine T.region ?_
  refine rs rfl rfl (ok_move (.inl rfl)) ?_
  refine rs rfl rfl (ok_move (.inl rfl)) ?_
  refine rs rfl rfl (ok_move (.inl rfl)) ?_
  refine rs rfl rfl ((ok_sub64 rfl ti_int rfl rfl (by omega) (by omega)).eq (x' := .int (u - o : Nat)) (congrArg AV.int (by omega)) rfl) ?_
  refine rs rfl rfl (by exact ok_append_zeros rfl ti_Luint8 rfl ti_uint8 (by decide) (by decide) rfl ti_int rfl rfl rfl rfl rfl rfl (by simp) (by simp; omega)) ?_
  refine rs rfl rfl (ok_move (.inr rfl)) ?_
  refine ro_nil ?_
  refine keepK hK4 [5] (by dsimp) (by dsimp) ?_
  refine T.seq fun K7 hK7 => ?_
  refine T.region ?_
  refine rs rfl rfl (ok_move (.inl rfl)) ?_
  refine rs rfl rfl (ok_move (.inr rfl)) ?_
  refine ro_nil ?_
  refine keepK hK7 [4] (by dsimp) (by dsimp) ?_
  refine T.ret (hQ _ _ _ rfl ?_).1 -- ret 1
  exact TEnt.fin [1] (by decide) (by simp) (by simp [normH, hget, Blk.ren, renL_ints, renL_map, ints, AV.ren]) ⟨by simp [tupA, AV.ren]; rfl, trivial⟩
 ·(try simp only [dE] at hc)
  rw [pad_none (by omega)] at hQ
  refine T.skip ?_
  refine keepK hK4 [5] (by dsimp) (by dsimp) ?_
  refine T.seq fun K8 hK8 => ?_
  refine T.region ?_
  refine rs rfl rfl (ok_move (.inl rfl)) ?_
  refine rs rfl rfl (ok_move (.inr rfl)) ?_
  refine ro_nil ?_
  refine keepK hK8 [4] (by dsimp) (by dsimp) ?_
  refine T.ret (hQ _ _ _ rfl ?_).1 -- ret 2
  exact TEnt.fin [0] (by decide) (by simp) (by simp [normH, hget, Blk.ren, renL_ints]) ⟨rfl, trivial⟩
theorem rpad_new (l : List Int) (u : Nat) (hu : 1 ≤ u ∧ u ≤ 65536) (hl : l.length ≤ 100000000) : CSpec Tryz.prog 52 [] [.fz 1 (ints .u8 l), .int u] [some ⟨1, true, ints .u8 (padL l u)⟩] (.sl 0 0 (padL l u).length) := by
 obtain ⟨z, hz⟩ : ∃ z, (u - l.length % u) % u = z := ⟨_, rfl⟩
 have hou : l.length % u < u := Nat.mod_lt _ (by omega)
 have hzu : z < u := hz ▸ Nat.mod_lt _ (by omega)
 have hz0 : l.length % u = 0 ∧ z = 0 ∨ 0 < l.length % u ∧ z = u - l.length % u := by
   rcases Nat.eq_zero_or_pos (l.length % u) with h | h
   · left; rw [h] at hz; simp at hz; exact ⟨h, hz.symm⟩
   · right; rw [Nat.mod_eq_of_lt (a := u - l.length % u) (by omega)] at hz; exact ⟨h, hz.symm⟩
 have hpad : padL l u = l ++ List.replicate z 0 := by unfold padL; rw [hz]
 rw [hpad]
 refine CSpec.body Tryz.func52 rfl rfl rfl rfl rfl fun Q hQ => ?_
 refine T.seq fun K1 hK1 => ?_
 refine T.region ?_
 refine rs rfl rfl (ok_move (.inr rfl)) ?_
 refine ro_nil ?_
 refine keepK hK1 [0, 1] (by dsimp) (by dsimp) ?_
 refine T.seq fun K2 hK2 => ?_
 refine T.seq fun K3 hK3 => ?_
 refine T.region ?_
 refine rs rfl rfl (ok_move (.inl rfl)) ?_
 refine rs rfl rfl (OpOk.bool (d := false) (ok_binOp rfl ti_int rfl) (by simp; omega)) ?_
 refine ro_nil ?_
 refine keepK hK3 [0, 1, 7] (by dsimp) (by dsimp) ?_
 refine T.cond_false rfl ?_
 refine T.skip ?_
 refine keepK hK2 [0, 1] (by dsimp) (by dsimp) ?_
 refine T.seq fun K4 hK4 => ?_
 refine T.seq fun K5 hK5 => ?_
 refine T.region ?_
 refine rs rfl rfl (ok_move (.inl rfl)) ?_
 refine rs rfl rfl (OpOk.bool (d := false) (ok_binOp rfl ti_int rfl) (by simp; omega)) ?_
 refine ro_nil ?_
 refine keepK hK5 [0, 1, 9] (by dsimp) (by dsimp) ?_
 refine T.cond_false rfl ?_
 refine T.skip ?_
 refine keepK hK4 [0, 1] (by dsimp) (by dsimp) ?_
 refine T.seq fun K6 hK6 => ?_
 refine T.region ?_
 refine rs rfl rfl (ok_buildSlice (n := 0) (ps := #[]) rfl ti_Luint8 rfl ti_uint8 (by decide) rfl rfl (by decide) rfl rfl rfl) ?_
 refine rs rfl rfl (ok_move (.inl rfl)) ?_
 refine rs rfl rfl (by exact ok_append_ints (k := .u8) (xs := []) (ys := l) rfl ti_Luint8 rfl ti_uint8 rfl (by decide) rfl ti_Luint8 (by simp) rfl rfl rfl rfl rfl rfl rfl rfl rfl (by simp; omega)) ?_
 refine rs rfl rfl (ok_move (.inr rfl)) ?_
 refine ro_nil ?_
 refine keepK hK6 [1, 5] (by dsimp) (by dsimp) ?_
 refine T.seq fun K7 hK7 => ?_
 refine T.block ?_
 refine T.loopI (ι := Nat) (fun i => i ≤ z) (fun i => z - i) (fun i => ([(1, .int u), (5, .sl 0 0 (l ++ List.replicate i 0).length)], [some ⟨1, true, ints .u8 (l ++ List.replicate i 0)⟩])) 0 (Nat.zero_le _) (TEnt.fin [1] (by decide) (by simp) (by simp [normH, hget, Blk.ren, renL_ints]) ⟨rfl, by simp [AV.ren]; rfl, trivial⟩) (fun i hi => ?_) -- loop 1
 have hcast : ((l.length : Int) + (i : Int)) % (u : Int) = (((l.length + i) % u : Nat) : Int) := by simp
 refine T.seq fun K8 hK8 => ?_
 refine T.seq fun K9 hK9 => ?_
 refine T.region ?_
 refine rs rfl rfl (ok_move (.inl rfl)) ?_
 refine rs rfl rfl (ok_len' rfl rfl ti_Luint8 rfl (by first | exact ints_length _ _ | exact rowsA_length _ _ | exact Cms_len _ | exact mapLen _ | rfl)) ?_
 refine rs rfl rfl (ok_move (.inl rfl)) ?_
 refine rs rfl rfl ((ok_rem64 rfl ti_int rfl rfl (by omega) (by omega)).eq (x' := .int ((l.length + i) % u : Nat)) (congrArg AV.int (by simp)) rfl) ?_
 refine rs rfl rfl (ok_binOp rfl ti_int rfl) ?_
 refine ro_nil ?_
 refine keepK hK9 [1, 5, 17] (by dsimp) (by dsimp) ?_
 refine T.cond rfl (fun hc => ?_) (fun hc => ?_) -- cond 1
 ·(try simp only [dE] at hc)
  have hiz : i < z := by
    rcases Nat.lt_or_ge i z with h | h
    · exact h
    · exfalso
      obtain rfl : i = z := by omega
      have hm : (l.length + i) % u = 0 := by
        rcases hz0 with ⟨h1, h2⟩ | ⟨h1, h2⟩
        · rw [h2, Nat.add_zero]; exact h1
        · exact mod_add_eq (by omega) hzu
      rw [hcast, hm] at hc
      exact hc rfl
  refine T.skip ?_
  refine keepK hK8 [1, 5] (by dsimp) (by dsimp) ?_
  refine T.block ?_
  refine T.region ?_
  refine rs rfl rfl (ok_move (.inl rfl)) ?_
  refine rs rfl rfl (ok_buildSlice (n := 1) (ps := #[(0, .const (.int .u8 (0)))]) rfl ti_Luint8 rfl ti_uint8 (by decide) rfl rfl (by decide) rfl rfl rfl) ?_
  refine rs rfl rfl (by exact ok_append_ints (k := .u8) (xs := l ++ List.replicate i 0) (ys := [0]) rfl ti_Luint8 rfl ti_uint8 rfl (by decide) rfl ti_Luint8 (by simp) rfl rfl rfl rfl rfl rfl rfl rfl rfl (by simp; omega)) ?_
  refine rs rfl rfl (ok_move (.inr rfl)) ?_
  refine ro_nil ?_
  exact ⟨i + 1, by omega, by omega, TEnt.fin [2] (by decide) (by simp) (by simp [normH, hget, Blk.ren, renL_ints, List.replicate_succ']) ⟨rfl, by simp [AV.ren, List.replicate_succ']; rfl, trivial⟩⟩
 ·(try simp only [dE] at hc)
  rw [hcast] at hc
  have hiz : i = z := by
    rcases Nat.lt_or_ge i z with h | h
    · exfalso
      rcases hz0 with ⟨h1, h2⟩ | ⟨h1, h2⟩
      · omega
      · have := mod_add_lt (n := l.length) (u := u) (i := i) (by omega)
        omega
    · omega
  subst hiz
  refine T.exit ?_
  refine keepK hK7 [5] (by dsimp) (by dsimp) ?_
  refine T.seq fun K10 hK10 => ?_
  refine T.region ?_
  refine rs rfl rfl (ok_move (.inl rfl)) ?_
  refine rs rfl rfl (ok_move (.inr rfl)) ?_
  refine ro_nil ?_
  refine keepK hK10 [4] (by dsimp) (by dsimp) ?_
  refine T.ret (hQ _ _ _ rfl ?_).1 -- ret 1
  exact TEnt.fin [0] (by decide) (by simp) (by simp [normH, hget, Blk.ren, renL_ints]) ⟨rfl, trivial⟩
def RNB (k : Nat) : Blk := ⟨1, true, [.ref k 0 1, .ref k 0 2, .ref k 0 3, .ref k 0 4, .ref k 0 6, .ref k 0 7, .ref k 0 8]⟩
def fidx (i : Nat) : Nat := if i < 4 then i + 1 else i + 2
theorem RNB_get {k i : Nat} (h : i < 7) : (RNB k).els[i]? = some (.ref k 0 (fidx i)) := by
  match i, h with
  | 0, _ | 1, _ | 2, _ | 3, _ | 4, _ | 5, _ | 6, _ => rfl
theorem seven_get {x : Rc} {i : Nat} {v : Int} (h : x.seven[i]? = some v) : (RcC x)[fidx i]? = some (.int v) := by
  have hi : i < 7 := (List.getElem?_eq_some_iff.1 h).1
  match i, hi with
  | 0, _ | 1, _ | 2, _ | 3, _ | 4, _ | 5, _ | 6, _ => simp [Rc.seven] at h; subst h; rfl
theorem rnum_new (x : Rc) : CSpec Tryz.prog 82 [RcB x] [.ref 0 0 0] [some (RcB x), some (RNB 0)] (.sl 1 0 7) := by
 refine CSpec.body Tryz.func82 rfl rfl rfl rfl rfl fun Q hQ => ?_
 refine T.seq fun K1 hK1 => ?_
 refine T.region ?_
 refine rs rfl rfl (ok_move (.inr rfl)) ?_
 refine ro_nil ?_
 refine keepK hK1 [0] (by dsimp) (by dsimp) ?_
 refine T.seq fun K2 hK2 => ?_
 refine T.drawH mixed [] ?_
 refine any_take 0 rfl (by first | rfl | decide +kernel) rfl (HeldL.refl _) (fun H' hH => OpOk.step (ok_move (.inl rfl))) ?_
 refine any_take 1 rfl (by first | rfl | decide +kernel) rfl (HeldL.refl _) (fun H' hH => OpOk.step (ok_nilCheck rfl rfl)) ?_
 refine any_take 2 rfl (by first | rfl | decide +kernel) rfl (HeldL.refl _) (fun H' hH => OpOk.step (ok_fieldAddr rfl ti_api_Rec rfl rfl ti_int (by decide) rfl)) ?_
 refine any_take 3 rfl (by first | rfl | decide +kernel) rfl (HeldL.refl _) (fun H' hH => OpOk.step (ok_move (.inl rfl))) ?_
 refine any_take 4 rfl (by first | rfl | decide +kernel) rfl (HeldL.refl _) (fun H' hH => OpOk.step (ok_nilCheck rfl rfl)) ?_
 refine any_take 5 rfl (by first | rfl | decide +kernel) rfl (HeldL.refl _) (fun H' hH => OpOk.step (ok_fieldAddr rfl ti_api_Rec rfl rfl ti_int (by decide) rfl)) ?_
 refine any_take 6 rfl (by first | rfl | decide +kernel) rfl (HeldL.refl _) (fun H' hH => OpOk.step (ok_move (.inl rfl))) ?_
 refine any_take 7 rfl (by first | rfl | decide +kernel) rfl (HeldL.refl _) (fun H' hH => OpOk.step (ok_nilCheck rfl rfl)) ?_
 refine any_take 8 rfl (by first | rfl | decide +kernel) rfl (HeldL.refl _) (fun H' hH => OpOk.step (ok_fieldAddr rfl ti_api_Rec rfl rfl ti_int (by decide) rfl)) ?_
 refine any_take 9 rfl (by first | rfl | decide +kernel) rfl (HeldL.refl _) (fun H' hH => OpOk.step (ok_move (.inl rfl))) ?_
 refine any_take 10 rfl (by first | rfl | decide +kernel) rfl (HeldL.refl _) (fun H' hH => OpOk.step (ok_nilCheck rfl rfl)) ?_
 refine any_take 11 rfl (by first | rfl | decide +kernel) rfl (HeldL.refl _) (fun H' hH => OpOk.step (ok_fieldAddr rfl ti_api_Rec rfl rfl ti_int (by decide) rfl)) ?_
 refine any_take 12 rfl (by first | rfl | decide +kernel) rfl (HeldL.refl _) (fun H' hH => OpOk.step (ok_move (.inl rfl))) ?_
 refine any_take 13 rfl (by first | rfl | decide +kernel) rfl (HeldL.refl _) (fun H' hH => OpOk.step (ok_nilCheck rfl rfl)) ?_
 refine any_take 14 rfl (by first | rfl | decide +kernel) rfl (HeldL.refl _) (fun H' hH => OpOk.step (ok_fieldAddr rfl ti_api_Rec rfl rfl ti_int (by decide) rfl)) ?_
 refine any_take 15 rfl (by first | rfl | decide +kernel) rfl (HeldL.refl _) (fun H' hH => OpOk.step (ok_move (.inl rfl))) ?_
 refine any_take 16 rfl (by first | rfl | decide +kernel) rfl (HeldL.refl _) (fun H' hH => OpOk.step (ok_nilCheck rfl rfl)) ?_
 refine any_take 17 rfl (by first | rfl | decide +kernel) rfl (HeldL.refl _) (fun H' hH => OpOk.step (ok_fieldAddr rfl ti_api_Rec rfl rfl ti_int (by decide) rfl)) ?_
 refine any_take 18 rfl (by first | rfl | decide +kernel) rfl (HeldL.refl _) (fun H' hH => OpOk.step (ok_move (.inl rfl))) ?_
 refine any_take 19 rfl (by first | rfl | decide +kernel) rfl (HeldL.refl _) (fun H' hH => OpOk.step (ok_nilCheck rfl rfl)) ?_
 refine any_take 20 rfl (by first | rfl | decide +kernel) rfl (HeldL.refl _) (fun H' hH => OpOk.step (ok_fieldAddr rfl ti_api_Rec rfl rfl ti_int (by decide) rfl)) ?_
 refine any_one 21 rfl (by first | rfl | decide +kernel) rfl rfl (OpOk.step (ok_buildSlice (n := 7) (ps := #[(0, .tmp 5), (1, .tmp 8), (2, .tmp 11), (3, .tmp 14), (4, .tmp 17), (5, .tmp 20), (6, .tmp 23)]) rfl ti_LPint rfl ti_Pint (by decide) rfl rfl (by decide) rfl rfl rfl)) (.inr (by first | (simp [HeldL]; done) | (simp only [dH]; (repeat' first | trivial | rfl | constructor)))) ?_
 refine any_take 22 rfl (by first | rfl | decide +kernel) rfl (by first | exact HeldL.refl _ | exact HeldL.append _ _ | simp [HeldL]) (fun H' hH => OpOk.step (ok_move (.inr rfl))) ?_
 refine any_done rfl ?_
 refine keepK hK2 [2] (by dsimp) (by dsimp) ?_
 refine T.ret (hQ _ _ _ rfl ?_).1 -- ret 1
 exact TEnt.fin [0, 1] (by decide) (by simp) (by simp [normH, hget, RcB_ren]; rfl) ⟨rfl, trivial⟩
/-- Which records may be. -/
def PR (x : Rc) : Prop := (0 ≤ x.kind ∧ x.kind ≤ 6) ∧ (0 ≤ x.epoch ∧ x.epoch ≤ 1099511627776) ∧ (0 ≤ x.seq ∧ x.seq ≤ 1099511627776) ∧ (0 ≤ x.zone ∧ x.zone ≤ 1099511627776) ∧ (0 ≤ x.gen ∧ x.gen ≤ 1099511627776) ∧ (-1 ≤ x.slot ∧ x.slot ≤ 1099511627776) ∧ (0 ≤ x.w ∧ x.w ≤ 1099511627776) ∧ (0 ≤ x.member ∧ x.member ≤ 1099511627776) ∧ (0 ≤ x.status ∧ x.status ≤ 1099511627776) ∧ x.body.length ≤ 1048576
instance (x : Rc) : Decidable (PR x) := by unfold PR; infer_instance
theorem PR_seven {x : Rc} {i : Nat} {v : Int} (h : x.seven[i]? = some v) (hp : PR x) : 0 ≤ v ∧ v ≤ 1099511627776 := by
  have hi : i < 7 := (List.getElem?_eq_some_iff.1 h).1
  unfold PR at hp
  match i, hi with
  | 0, _ | 1, _ | 2, _ | 3, _ | 4, _ | 5, _ | 6, _ => simp [Rc.seven] at h; subst h; omega
theorem PR_nine {x : Rc} {i : Nat} {v : Int} (h : x.l[i]? = some v) (hp : PR x) : v ≤ 1099511627776 ∧ (0 ≤ v ∨ i = 5) := by
  have hi : i < 9 := (List.getElem?_eq_some_iff.1 h).1
  unfold PR at hp
  match i, hi with
  | 0, _ | 1, _ | 2, _ | 3, _ | 4, _ | 5, _ | 6, _ | 7, _ | 8, _ => simp [Rc.l] at h; subst h; omega
theorem right_ok (x : Rc) (hb : x.body.length ≤ 140737488355328) : CSpec Tryz.prog 41 [] [.agg (RcC x)] [] (.b (decide (PR x))) := by
 refine CSpec.body Tryz.func41 rfl rfl rfl rfl rfl fun Q hQ => ?_
 refine T.seq fun K1 hK1 => ?_
 refine T.region ?_
 refine rs rfl rfl (ok_box (n := 10) rfl rfl (by decide)) ?_
 refine rs rfl rfl (ok_moveb (c := false) (.inr rfl) rfl) ?_
 refine ro_nil ?_
 refine keepK hK1 [1] (by dsimp) (by dsimp) ?_
 refine T.seq fun K2 hK2 => ?_
 refine T.seq fun K3 hK3 => ?_
 refine T.region ?_
 refine ro rfl rfl (ok_call rfl rfl rfl (((rnum_new x).pass [0] (by decide) (by simp) (by simp [normH, hget]; exact RcB_ren _ _) rfl).eq (x' := .sl 1 0 7) (H'' := [some (RcB x), some (RNB 0)]) rfl (by simp [mergeH, setIds, renH, RcB_ren]; rfl))) ?_
 refine rs rfl rfl (ok_len' rfl rfl ti_LPint rfl (by first | exact ints_length _ _ | exact rowsA_length _ _ | exact Cms_len _ | exact mapLen _ | rfl)) ?_
 refine rs rfl rfl (ok_move (.inl rfl)) ?_
 refine ro_nil ?_
 refine keepK hK3 [1, 5, 6, 7] (by dsimp) (by dsimp) ?_
 refine T.block ?_
 refine T.loopI (ι := Nat) (fun i => i ≤ 7 ∧ ∀ j, j < i → ∀ v, x.seven[j]? = some v → 0 ≤ v ∧ v ≤ 1099511627776) (fun i => 7 - i) (fun i => ([(1, .ref 0 0 0), (5, .sl 1 0 7), (6, .int 7), (7, .int i)], [some (RcB x), some (RNB 0)])) 0 ⟨Nat.zero_le _, fun j hj => absurd hj (Nat.not_lt_zero _)⟩ (TEnt.toH rfl ⟨rfl, rfl, rfl, rfl, trivial⟩) (fun i hi => ?_) -- loop 1
 obtain ⟨hi, hall⟩ := hi
 refine T.seq fun K4 hK4 => ?_
 refine T.region ?_
 refine rs rfl rfl (ok_binOp rfl ti_int rfl) ?_
 refine ro_nil ?_
 refine keepK hK4 [1, 5, 6, 7, 8] (by dsimp) (by dsimp) ?_
 refine T.seq fun K5 hK5 => ?_
 refine T.cond rfl (fun hc => ?_) (fun hc => ?_) -- cond 1
 ·(try simp only [dE] at hc)
  have hi7 : i < 7 := by omega
  obtain ⟨v, hv⟩ : ∃ v, x.seven[i]? = some v := ⟨_, List.getElem?_eq_getElem (by simp [Rc.seven]; omega)⟩
  have hvR := seven_get hv
  have hbad := PR_seven hv
  refine T.skip ?_
  refine keepK hK5 [1, 5, 6, 7] (by dsimp) (by dsimp) ?_
  refine T.seq fun K6 hK6 => ?_
  refine T.block ?_
  refine T.seq fun K7 hK7 => ?_
  refine T.region ?_
  refine rs rfl rfl (by exact ok_index_sl rfl ti_LPint rfl ti_Pint rfl rfl rfl rfl (by omega) (by omega)) ?_
  refine rs rfl rfl (by exact ok_load rfl ti_Pint (cl := [.ref 0 0 (fidx i)]) (f := 0) (by show locA [some (RcB x), some (RNB 0)] (.ref 1 (0 + ((i : Nat) : Int).toNat) 0) = _; simp [locA, hget, RNB_get hi7, AV.cells]) rfl) ?_
  refine rs rfl rfl (ok_move (.inr rfl)) ?_
  refine ro_nil ?_
  refine keepK hK7 [1, 4, 5, 6, 7] (by dsimp) (by dsimp) ?_
  refine T.seq fun K8 hK8 => ?_
  refine T.region ?_
  refine rs rfl rfl (ok_move (.inl rfl)) ?_
  refine rs rfl rfl (ok_nilCheck rfl rfl) ?_
  refine rs rfl rfl (by exact ok_load rfl ti_int (cl := RcC x) (f := fidx i) rfl hvR) ?_
  refine rs rfl rfl (ok_binOp rfl ti_int rfl) ?_
  refine ro_case rfl rfl (OpOk.step (ok_moveb (.inl rfl) rfl)) (fun hb => ?_) (fun hb => ?_)
  ·(try simp only [dE] at hb)
   refine ro_skip rfl rfl ?_
   refine ro_skip rfl rfl ?_
   refine ro_skip rfl rfl ?_
   refine ro_skip rfl rfl ?_
   refine rs rfl rfl (ok_pickb (t := true) (d := true) rfl rfl rfl) ?_
   refine ro_nil ?_
   refine keepK hK8 [1, 5, 6, 7, 20] (by dsimp) (by dsimp) ?_
   refine T.cond_true rfl ?_
   refine T.seq fun K9 hK9 => ?_
   refine T.region ?_
   refine rs rfl rfl (ok_moveb (c := false) (.inr rfl) rfl) ?_
   refine ro_nil ?_
   refine keepK hK9 [2] (by dsimp) (by dsimp) ?_
   refine T.ret (hQ _ _ _ rfl ?_).1 -- ret 1
   exact by first | (rw [decide_eq_false (fun h => by have := hbad h; omega)]; exact TEnt.fin [] (by decide) (by simp) rfl ⟨rfl, trivial⟩) | (rw [decide_eq_false (by unfold PR; omega)]; exact TEnt.fin [] (by decide) (by simp) rfl ⟨rfl, trivial⟩) | (have e : decide (PR x) = decide ((x.body.length : Int) ≤ 1048576) := (by rw [decide_eq_decide]; unfold PR; omega); rw [e]; exact TEnt.fin [] (by decide) (by simp) rfl ⟨rfl, trivial⟩)
  ·(try simp only [dE] at hb)
   refine rs rfl rfl (ok_move (.inl rfl)) ?_
   refine rs rfl rfl (ok_nilCheck rfl rfl) ?_
   refine rs rfl rfl (by exact ok_load rfl ti_int (cl := RcC x) (f := fidx i) rfl hvR) ?_
   refine rs rfl rfl (ok_binOp rfl ti_int rfl) ?_
   refine rs rfl rfl (ok_pick rfl rfl) ?_
   refine ro_nil ?_
   refine keepK hK8 [1, 5, 6, 7, 20] (by dsimp) (by dsimp) ?_
   refine T.cond rfl (fun hc => ?_) (fun hc => ?_) -- cond 2
   ·(try simp only [dE] at hc)
    refine T.seq fun K10 hK10 => ?_
    refine T.region ?_
    refine rs rfl rfl (ok_moveb (c := false) (.inr rfl) rfl) ?_
    refine ro_nil ?_
    refine keepK hK10 [2] (by dsimp) (by dsimp) ?_
    refine T.ret (hQ _ _ _ rfl ?_).1 -- ret 2
    exact by first | (rw [decide_eq_false (fun h => by have := hbad h; omega)]; exact TEnt.fin [] (by decide) (by simp) rfl ⟨rfl, trivial⟩) | (rw [decide_eq_false (by unfold PR; omega)]; exact TEnt.fin [] (by decide) (by simp) rfl ⟨rfl, trivial⟩) | (have e : decide (PR x) = decide ((x.body.length : Int) ≤ 1048576) := (by rw [decide_eq_decide]; unfold PR; omega); rw [e]; exact TEnt.fin [] (by decide) (by simp) rfl ⟨rfl, trivial⟩)
   ·(try simp only [dE] at hc)
    refine T.skip ?_
    refine keepK hK6 [1, 5, 6, 7] (by dsimp) (by dsimp) ?_
    refine T.region ?_
    refine rs rfl rfl (ok_add64 rfl ti_int rfl rfl (by omega) (by omega)) ?_
    refine rs rfl rfl (ok_move (.inl rfl)) ?_
    refine ro_nil ?_
    exact ⟨i + 1, ⟨by omega, fun j hj u hu => by
      rcases Nat.lt_or_ge j i with h | h
      · exact hall j h u hu
      · obtain rfl : j = i := by omega
        rw [hv] at hu
        cases hu
        omega⟩, by omega, TEnt.toH rfl ⟨rfl, rfl, rfl, rfl, trivial⟩⟩
 ·(try simp only [dE] at hc)
  have hi7 : i = 7 := by omega
  subst hi7
  have a0 := hall 0 (by decide) _ rfl
  have a1 := hall 1 (by decide) _ rfl
  have a2 := hall 2 (by decide) _ rfl
  have a3 := hall 3 (by decide) _ rfl
  have a4 := hall 4 (by decide) _ rfl
  have a5 := hall 5 (by decide) _ rfl
  have a6 := hall 6 (by decide) _ rfl
  clear hall
  refine T.exit ?_
  refine keepK hK2 [1] (by dsimp) (by dsimp) ?_
  refine T.seq fun K11 hK11 => ?_
  refine T.region ?_
  refine rs rfl rfl (ok_fieldAddr rfl ti_api_Rec rfl rfl ti_int (by decide) rfl) ?_
  refine rs rfl rfl (ok_load rfl ti_int rfl rfl) ?_
  refine rs rfl rfl (ok_binOp rfl ti_int rfl) ?_
  refine ro_case rfl rfl (OpOk.step (ok_moveb (.inl rfl) rfl)) (fun hb => ?_) (fun hb => ?_)
  ·(try simp only [dE] at hb)
   refine rs rfl rfl (ok_fieldAddr rfl ti_api_Rec rfl rfl ti_int (by decide) rfl) ?_
   refine rs rfl rfl (ok_load rfl ti_int rfl rfl) ?_
   refine rs rfl rfl (ok_binOp rfl ti_int rfl) ?_
   refine rs rfl rfl (ok_pick rfl rfl) ?_
   refine ro_case rfl rfl (OpOk.step (ok_moveb (.inl rfl) rfl)) (fun hb => ?_) (fun hb => ?_)
   ·(try simp only [dE] at hb)
    refine rs rfl rfl (ok_fieldAddr rfl ti_api_Rec rfl rfl ti_int (by decide) rfl) ?_
    refine rs rfl rfl (ok_load rfl ti_int rfl rfl) ?_
    refine rs rfl rfl (ok_binOp rfl ti_int rfl) ?_
    refine rs rfl rfl (ok_pick rfl rfl) ?_
    refine ro_case rfl rfl (OpOk.step (ok_moveb (.inl rfl) rfl)) (fun hb => ?_) (fun hb => ?_)
    ·(try simp only [dE] at hb)
     refine rs rfl rfl (ok_fieldAddr rfl ti_api_Rec rfl rfl ti_int (by decide) rfl) ?_
     refine rs rfl rfl (ok_load rfl ti_int rfl rfl) ?_
     refine rs rfl rfl (ok_binOp rfl ti_int rfl) ?_
     refine rs rfl rfl (ok_pick rfl rfl) ?_
     refine ro_case rfl rfl (OpOk.step (ok_moveb (.inl rfl) rfl)) (fun hb => ?_) (fun hb => ?_)
     ·(try simp only [dE] at hb)
      refine rs rfl rfl (ok_fieldAddr rfl ti_api_Rec rfl rfl ti_Luint8 (by decide) rfl) ?_
      refine rs rfl rfl (ok_load rfl ti_Luint8 rfl rfl) ?_
      refine rs rfl rfl (ok_len' rfl rfl ti_Luint8 rfl (by first | exact ints_length _ _ | exact rowsA_length _ _ | exact Cms_len _ | exact mapLen _ | rfl)) ?_
      refine rs rfl rfl (ok_binOp rfl ti_int rfl) ?_
      refine rs rfl rfl (ok_pick rfl rfl) ?_
      refine rs rfl rfl (ok_move (.inr rfl)) ?_
      refine ro_nil ?_
      refine keepK hK11 [2] (by dsimp) (by dsimp) ?_
      refine T.ret (hQ _ _ _ rfl ?_).1 -- ret 3
      exact by first | (rw [decide_eq_false (fun h => by have := hbad h; omega)]; exact TEnt.fin [] (by decide) (by simp) rfl ⟨rfl, trivial⟩) | (rw [decide_eq_false (by unfold PR; omega)]; exact TEnt.fin [] (by decide) (by simp) rfl ⟨rfl, trivial⟩) | (have e : decide (PR x) = decide ((x.body.length : Int) ≤ 1048576) := (by rw [decide_eq_decide]; unfold PR; omega); rw [e]; exact TEnt.fin [] (by decide) (by simp) rfl ⟨rfl, trivial⟩)
     ·(try simp only [dE] at hb)
      refine ro_skip rfl rfl ?_
      refine ro_skip rfl rfl ?_
      refine ro_skip rfl rfl ?_
      refine ro_skip rfl rfl ?_
      refine rs rfl rfl (ok_pickb (t := false) (d := false) rfl rfl rfl) ?_
      refine rs rfl rfl (ok_moveb (c := false) (.inr rfl) rfl) ?_
      refine ro_nil ?_
      refine keepK hK11 [2] (by dsimp) (by dsimp) ?_
      refine T.ret (hQ _ _ _ rfl ?_).1 -- ret 4
      exact by first | (rw [decide_eq_false (fun h => by have := hbad h; omega)]; exact TEnt.fin [] (by decide) (by simp) rfl ⟨rfl, trivial⟩) | (rw [decide_eq_false (by unfold PR; omega)]; exact TEnt.fin [] (by decide) (by simp) rfl ⟨rfl, trivial⟩) | (have e : decide (PR x) = decide ((x.body.length : Int) ≤ 1048576) := (by rw [decide_eq_decide]; unfold PR; omega); rw [e]; exact TEnt.fin [] (by decide) (by simp) rfl ⟨rfl, trivial⟩)
    ·(try simp only [dE] at hb)
     refine ro_skip rfl rfl ?_
     refine ro_skip rfl rfl ?_
     refine ro_skip rfl rfl ?_
     refine rs rfl rfl (ok_pickb (t := false) (d := false) rfl rfl rfl) ?_
     refine rs rfl rfl (ok_moveb (c := false) (.inl rfl) rfl) ?_
     refine ro_skip rfl rfl ?_
     refine ro_skip rfl rfl ?_
     refine ro_skip rfl rfl ?_
     refine ro_skip rfl rfl ?_
     refine rs rfl rfl (ok_pickb (t := false) (d := false) rfl rfl rfl) ?_
     refine rs rfl rfl (ok_moveb (c := false) (.inr rfl) rfl) ?_
     refine ro_nil ?_
     refine keepK hK11 [2] (by dsimp) (by dsimp) ?_
     refine T.ret (hQ _ _ _ rfl ?_).1 -- ret 5
     exact by first | (rw [decide_eq_false (fun h => by have := hbad h; omega)]; exact TEnt.fin [] (by decide) (by simp) rfl ⟨rfl, trivial⟩) | (rw [decide_eq_false (by unfold PR; omega)]; exact TEnt.fin [] (by decide) (by simp) rfl ⟨rfl, trivial⟩) | (have e : decide (PR x) = decide ((x.body.length : Int) ≤ 1048576) := (by rw [decide_eq_decide]; unfold PR; omega); rw [e]; exact TEnt.fin [] (by decide) (by simp) rfl ⟨rfl, trivial⟩)
   ·(try simp only [dE] at hb)
    refine ro_skip rfl rfl ?_
    refine ro_skip rfl rfl ?_
    refine ro_skip rfl rfl ?_
    refine rs rfl rfl (ok_pickb (t := false) (d := false) rfl rfl rfl) ?_
    refine rs rfl rfl (ok_moveb (c := false) (.inl rfl) rfl) ?_
    refine ro_skip rfl rfl ?_
    refine ro_skip rfl rfl ?_
    refine ro_skip rfl rfl ?_
    refine rs rfl rfl (ok_pickb (t := false) (d := false) rfl rfl rfl) ?_
    refine rs rfl rfl (ok_moveb (c := false) (.inl rfl) rfl) ?_
    refine ro_skip rfl rfl ?_
    refine ro_skip rfl rfl ?_
    refine ro_skip rfl rfl ?_
    refine ro_skip rfl rfl ?_
    refine rs rfl rfl (ok_pickb (t := false) (d := false) rfl rfl rfl) ?_
    refine rs rfl rfl (ok_moveb (c := false) (.inr rfl) rfl) ?_
    refine ro_nil ?_
    refine keepK hK11 [2] (by dsimp) (by dsimp) ?_
    refine T.ret (hQ _ _ _ rfl ?_).1 -- ret 6
    exact by first | (rw [decide_eq_false (fun h => by have := hbad h; omega)]; exact TEnt.fin [] (by decide) (by simp) rfl ⟨rfl, trivial⟩) | (rw [decide_eq_false (by unfold PR; omega)]; exact TEnt.fin [] (by decide) (by simp) rfl ⟨rfl, trivial⟩) | (have e : decide (PR x) = decide ((x.body.length : Int) ≤ 1048576) := (by rw [decide_eq_decide]; unfold PR; omega); rw [e]; exact TEnt.fin [] (by decide) (by simp) rfl ⟨rfl, trivial⟩)
  ·(try simp only [dE] at hb)
   refine ro_skip rfl rfl ?_
   refine ro_skip rfl rfl ?_
   refine ro_skip rfl rfl ?_
   refine rs rfl rfl (ok_pickb (t := false) (d := false) rfl rfl rfl) ?_
   refine rs rfl rfl (ok_moveb (c := false) (.inl rfl) rfl) ?_
   refine ro_skip rfl rfl ?_
   refine ro_skip rfl rfl ?_
   refine ro_skip rfl rfl ?_
   refine rs rfl rfl (ok_pickb (t := false) (d := false) rfl rfl rfl) ?_
   refine rs rfl rfl (ok_moveb (c := false) (.inl rfl) rfl) ?_
   refine ro_skip rfl rfl ?_
   refine ro_skip rfl rfl ?_
   refine ro_skip rfl rfl ?_
   refine rs rfl rfl (ok_pickb (t := false) (d := false) rfl rfl rfl) ?_
   refine rs rfl rfl (ok_moveb (c := false) (.inl rfl) rfl) ?_
   refine ro_skip rfl rfl ?_
   refine ro_skip rfl rfl ?_
   refine ro_skip rfl rfl ?_
   refine ro_skip rfl rfl ?_
   refine rs rfl rfl (ok_pickb (t := false) (d := false) rfl rfl rfl) ?_
   refine rs rfl rfl (ok_moveb (c := false) (.inr rfl) rfl) ?_
   refine ro_nil ?_
   refine keepK hK11 [2] (by dsimp) (by dsimp) ?_
   refine T.ret (hQ _ _ _ rfl ?_).1 -- ret 7
   exact by first | (rw [decide_eq_false (fun h => by have := hbad h; omega)]; exact TEnt.fin [] (by decide) (by simp) rfl ⟨rfl, trivial⟩) | (rw [decide_eq_false (by unfold PR; omega)]; exact TEnt.fin [] (by decide) (by simp) rfl ⟨rfl, trivial⟩) | (have e : decide (PR x) = decide ((x.body.length : Int) ≤ 1048576) := (by rw [decide_eq_decide]; unfold PR; omega); rw [e]; exact TEnt.fin [] (by decide) (by simp) rfl ⟨rfl, trivial⟩)
theorem rlist_new (x : Rc) : CSpec Tryz.prog 48 [] [.agg (RcC x)] [some ⟨1, true, ints .i64 x.l⟩] (.sl 0 0 9) := by
 refine CSpec.body Tryz.func48 rfl rfl rfl rfl rfl fun Q hQ => ?_
 refine T.seq fun K1 hK1 => ?_
 refine T.region ?_
 refine rs rfl rfl (ok_box (n := 10) rfl rfl (by decide)) ?_
 refine rs rfl rfl (ok_move (.inr rfl)) ?_
 refine ro_nil ?_
 refine keepK hK1 [1] (by dsimp) (by dsimp) ?_
 refine T.seq fun K2 hK2 => ?_
 refine T.region ?_
 refine rs rfl rfl (ok_fieldAddr rfl ti_api_Rec rfl rfl ti_int (by decide) rfl) ?_
 refine rs rfl rfl (ok_load rfl ti_int rfl rfl) ?_
 refine rs rfl rfl (ok_fieldAddr rfl ti_api_Rec rfl rfl ti_int (by decide) rfl) ?_
 refine rs rfl rfl (ok_load rfl ti_int rfl rfl) ?_
 refine rs rfl rfl (ok_fieldAddr rfl ti_api_Rec rfl rfl ti_int (by decide) rfl) ?_
 refine rs rfl rfl (ok_load rfl ti_int rfl rfl) ?_
 refine rs rfl rfl (ok_fieldAddr rfl ti_api_Rec rfl rfl ti_int (by decide) rfl) ?_
 refine rs rfl rfl (ok_load rfl ti_int rfl rfl) ?_
 refine rs rfl rfl (ok_fieldAddr rfl ti_api_Rec rfl rfl ti_int (by decide) rfl) ?_
 refine rs rfl rfl (ok_load rfl ti_int rfl rfl) ?_
 refine rs rfl rfl (ok_fieldAddr rfl ti_api_Rec rfl rfl ti_int (by decide) rfl) ?_
 refine rs rfl rfl (ok_load rfl ti_int rfl rfl) ?_
 refine rs rfl rfl (ok_fieldAddr rfl ti_api_Rec rfl rfl ti_int (by decide) rfl) ?_
 refine rs rfl rfl (ok_load rfl ti_int rfl rfl) ?_
 refine rs rfl rfl (ok_fieldAddr rfl ti_api_Rec rfl rfl ti_int (by decide) rfl) ?_
 refine rs rfl rfl (ok_load rfl ti_int rfl rfl) ?_
 refine rs rfl rfl (ok_fieldAddr rfl ti_api_Rec rfl rfl ti_int (by decide) rfl) ?_
 refine rs rfl rfl (ok_load rfl ti_int rfl rfl) ?_
 refine rs rfl rfl (ok_buildSlice (n := 9) (ps := #[(0, .tmp 4), (1, .tmp 6), (2, .tmp 8), (3, .tmp 10), (4, .tmp 12), (5, .tmp 14), (6, .tmp 16), (7, .tmp 18), (8, .tmp 20)]) rfl ti_Lint rfl ti_int (by decide) rfl rfl (by decide) rfl rfl rfl) ?_
 refine rs rfl rfl (ok_move (.inr rfl)) ?_
 refine ro_nil ?_
 refine keepK hK2 [2] (by dsimp) (by dsimp) ?_
 refine T.ret (hQ _ _ _ rfl ?_).1 -- ret 1
 exact TEnt.fin [1] (by decide) (by simp) rfl ⟨rfl, trivial⟩
theorem rlist_frz (x : Rc) : CSpec Tryz.prog 48 [] [.agg (RcC x)] [] (.fz 1 (ints .i64 x.l)) := (rlist_new x).frz rfl (renL_ints _ _ _)
theorem rright_ok (x : Rc) (hb : x.body.length ≤ 140737488355328) : CSpec Tryz.prog 47 [] [.agg (RcC x)] [] (.b (decide (PR x))) := by
 obtain ⟨L, hL⟩ : ∃ L, x.l = L := ⟨_, rfl⟩
 have hLl : L.length = 9 := by rw [← hL]; rfl
 refine CSpec.body Tryz.func47 rfl rfl rfl rfl rfl fun Q hQ => ?_
 refine T.seq fun K1 hK1 => ?_
 refine T.region ?_
 refine rs rfl rfl (ok_box (n := 10) rfl rfl (by decide)) ?_
 refine rs rfl rfl (ok_moveb (c := false) (.inr rfl) rfl) ?_
 refine ro_nil ?_
 refine keepK hK1 [1] (by dsimp) (by dsimp) ?_
 refine T.seq fun K2 hK2 => ?_
 refine T.region ?_
 refine rs rfl rfl (ok_load rfl ti_api_Rec rfl rfl) ?_
 refine ro rfl rfl (ok_call rfl rfl rfl (((rlist_frz x).plain (by show renL (pos []) [.agg (RcC x)] = _; simp [renL, AV.ren, RcC_ren]) (by simp [AV.ren, renL_ints])).eq (x' := .fz 1 (ints .i64 L)) (by rw [hL]) rfl)) ?_
 refine rs rfl rfl (ok_move (.inr rfl)) ?_
 refine ro_nil ?_
 refine keepK hK2 [1, 3] (by dsimp) (by dsimp) ?_
 refine T.seq fun K3 hK3 => ?_
 refine T.seq fun K4 hK4 => ?_
 refine T.region ?_
 refine rs rfl rfl (ok_move (.inr rfl)) ?_
 refine ro_nil ?_
 refine keepK hK4 [1, 3, 4] (by dsimp) (by dsimp) ?_
 refine T.block ?_
 refine T.loopI (ι := Nat) (fun i => i ≤ 9 ∧ ∀ j, j < i → ∀ v, L[j]? = some v → v ≤ 1099511627776 ∧ (0 ≤ v ∨ j = 5)) (fun i => 9 - i) (fun i => ([(1, .ref 0 0 0), (3, .fz 1 (ints .i64 L)), (4, .int i)], [some (RcB x)])) 0 ⟨Nat.zero_le _, fun j hj => absurd hj (Nat.not_lt_zero _)⟩ (TEnt.toH rfl ⟨rfl, rfl, rfl, trivial⟩) (fun i hi => ?_) -- loop 1
 obtain ⟨hi, hall⟩ := hi
 refine T.seq fun K5 hK5 => ?_
 refine T.seq fun K6 hK6 => ?_
 refine T.region ?_
 refine rs rfl rfl (ok_move (.inl rfl)) ?_
 refine rs rfl rfl (ok_move (.inl rfl)) ?_
 refine rs rfl rfl (ok_len' rfl rfl ti_Lint rfl (by first | exact ints_length _ _ | exact rowsA_length _ _ | exact Cms_len _ | exact mapLen _ | rfl)) ?_
 refine rs rfl rfl (ok_binOp rfl ti_int rfl) ?_
 refine ro_nil ?_
 refine keepK hK6 [1, 3, 4, 10] (by dsimp) (by dsimp) ?_
 refine T.cond rfl (fun hc => ?_) (fun hc => ?_) -- cond 1
 ·(try simp only [dE] at hc)
  have hi9 : i < 9 := by omega
  obtain ⟨v, hv⟩ : ∃ v, L[i]? = some v := ⟨_, List.getElem?_eq_getElem (by omega)⟩
  have hbad := PR_nine (hL ▸ hv : x.l[i]? = some v)
  refine T.skip ?_
  refine keepK hK5 [1, 3, 4] (by dsimp) (by dsimp) ?_
  refine T.seq fun K7 hK7 => ?_
  refine T.block ?_
  refine T.seq fun K8 hK8 => ?_
  refine T.region ?_
  refine rs rfl rfl (ok_move (.inl rfl)) ?_
  refine rs rfl rfl (ok_move (.inl rfl)) ?_
  refine rs rfl rfl (by exact ok_index_ints rfl ti_Lint rfl ti_int rfl rfl rfl (by omega) (by simpa using hv)) ?_
  refine rs rfl rfl (by exact ok_load rfl ti_int (cl := [.int v]) (f := 0) rfl rfl) ?_
  refine rs rfl rfl (ok_binOp rfl ti_int rfl) ?_
  refine ro_case rfl rfl (OpOk.step (ok_moveb (.inl rfl) rfl)) (fun hb => ?_) (fun hb => ?_)
  ·(try simp only [dE] at hb)
   refine ro_skip rfl rfl ?_
   refine ro_skip rfl rfl ?_
   refine ro_skip rfl rfl ?_
   refine ro_skip rfl rfl ?_
   refine ro_skip rfl rfl ?_
   refine ro_skip rfl rfl ?_
   refine ro_skip rfl rfl ?_
   refine ro_skip rfl rfl ?_
   refine ro_skip rfl rfl ?_
   refine rs rfl rfl (ok_pickb (t := true) (d := true) rfl rfl rfl) ?_
   refine ro_nil ?_
   refine keepK hK8 [1, 3, 4, 28] (by dsimp) (by dsimp) ?_
   refine T.cond_true rfl ?_
   refine T.seq fun K9 hK9 => ?_
   refine T.region ?_
   refine rs rfl rfl (ok_moveb (c := false) (.inr rfl) rfl) ?_
   refine ro_nil ?_
   refine keepK hK9 [2] (by dsimp) (by dsimp) ?_
   refine T.ret (hQ _ _ _ rfl ?_).1 -- ret 1
   exact by first | (rw [decide_eq_false (fun h => by have := hbad h; omega)]; exact TEnt.fin [] (by decide) (by simp) rfl ⟨rfl, trivial⟩) | (rw [decide_eq_false (by unfold PR; omega)]; exact TEnt.fin [] (by decide) (by simp) rfl ⟨rfl, trivial⟩) | (have e : decide (PR x) = decide ((x.body.length : Int) ≤ 1048576) := (by rw [decide_eq_decide]; unfold PR; omega); rw [e]; exact TEnt.fin [] (by decide) (by simp) rfl ⟨rfl, trivial⟩)
  ·(try simp only [dE] at hb)
   refine rs rfl rfl (ok_move (.inl rfl)) ?_
   refine rs rfl rfl (ok_move (.inl rfl)) ?_
   refine rs rfl rfl (by exact ok_index_ints rfl ti_Lint rfl ti_int rfl rfl rfl (by omega) (by simpa using hv)) ?_
   refine rs rfl rfl (ok_load rfl ti_int rfl rfl) ?_
   refine rs rfl rfl (ok_binOp rfl ti_int rfl) ?_
   refine ro_case rfl rfl (OpOk.step (ok_moveb (.inl rfl) rfl)) (fun hb => ?_) (fun hb => ?_)
   ·(try simp only [dE] at hb)
    refine rs rfl rfl (ok_move (.inl rfl)) ?_
    refine rs rfl rfl (ok_binOp rfl ti_int rfl) ?_
    refine rs rfl rfl (ok_pick rfl rfl) ?_
    refine rs rfl rfl (ok_pick rfl rfl) ?_
    refine ro_nil ?_
    refine keepK hK8 [1, 3, 4, 28] (by dsimp) (by dsimp) ?_
    refine T.cond rfl (fun hc => ?_) (fun hc => ?_) -- cond 2
    ·(try simp only [dE] at hc)
     refine T.seq fun K10 hK10 => ?_
     refine T.region ?_
     refine rs rfl rfl (ok_moveb (c := false) (.inr rfl) rfl) ?_
     refine ro_nil ?_
     refine keepK hK10 [2] (by dsimp) (by dsimp) ?_
     refine T.ret (hQ _ _ _ rfl ?_).1 -- ret 2
     exact by first | (rw [decide_eq_false (fun h => by have := hbad h; omega)]; exact TEnt.fin [] (by decide) (by simp) rfl ⟨rfl, trivial⟩) | (rw [decide_eq_false (by unfold PR; omega)]; exact TEnt.fin [] (by decide) (by simp) rfl ⟨rfl, trivial⟩) | (have e : decide (PR x) = decide ((x.body.length : Int) ≤ 1048576) := (by rw [decide_eq_decide]; unfold PR; omega); rw [e]; exact TEnt.fin [] (by decide) (by simp) rfl ⟨rfl, trivial⟩)
    ·(try simp only [dE] at hc)
     refine T.skip ?_
     refine keepK hK7 [1, 3, 4] (by dsimp) (by dsimp) ?_
     refine T.region ?_
     refine rs rfl rfl (ok_move (.inl rfl)) ?_
     refine rs rfl rfl (ok_add64 rfl ti_int rfl rfl (by omega) (by omega)) ?_
     refine rs rfl rfl (ok_move (.inr rfl)) ?_
     refine ro_nil ?_
     exact ⟨i + 1, ⟨by omega, fun j hj u hu => by
       rcases Nat.lt_or_ge j i with h | h
       · exact hall j h u hu
       · obtain rfl : j = i := by omega
         rw [hv] at hu
         cases hu
         omega⟩, by omega, TEnt.toH rfl ⟨rfl, rfl, rfl, trivial⟩⟩
   ·(try simp only [dE] at hb)
    refine ro_skip rfl rfl ?_
    refine ro_skip rfl rfl ?_
    refine rs rfl rfl (ok_pickb (t := false) (d := false) rfl rfl rfl) ?_
    refine rs rfl rfl (ok_pickb (t := false) (d := false) rfl rfl rfl) ?_
    refine ro_nil ?_
    refine keepK hK8 [1, 3, 4, 28] (by dsimp) (by dsimp) ?_
    refine T.cond_false rfl ?_
    refine T.skip ?_
    refine keepK hK7 [1, 3, 4] (by dsimp) (by dsimp) ?_
    refine T.region ?_
    refine rs rfl rfl (ok_move (.inl rfl)) ?_
    refine rs rfl rfl (ok_add64 rfl ti_int rfl rfl (by omega) (by omega)) ?_
    refine rs rfl rfl (ok_move (.inr rfl)) ?_
    refine ro_nil ?_
    exact ⟨i + 1, ⟨by omega, fun j hj u hu => by
      rcases Nat.lt_or_ge j i with h | h
      · exact hall j h u hu
      · obtain rfl : j = i := by omega
        rw [hv] at hu
        cases hu
        omega⟩, by omega, TEnt.toH rfl ⟨rfl, rfl, rfl, trivial⟩⟩
 ·(try simp only [dE] at hc)
  have hi9 : i = 9 := by omega
  subst hi9
  rw [← hL] at hall
  have a0 := hall 0 (by decide) _ rfl
  have a1 := hall 1 (by decide) _ rfl
  have a2 := hall 2 (by decide) _ rfl
  have a3 := hall 3 (by decide) _ rfl
  have a4 := hall 4 (by decide) _ rfl
  have a5 := hall 5 (by decide) _ rfl
  have a6 := hall 6 (by decide) _ rfl
  have a7 := hall 7 (by decide) _ rfl
  have a8 := hall 8 (by decide) _ rfl
  clear hall
  refine T.exit ?_
  refine keepK hK3 [1] (by dsimp) (by dsimp) ?_
  refine T.seq fun K11 hK11 => ?_
  refine T.region ?_
  refine rs rfl rfl (ok_fieldAddr rfl ti_api_Rec rfl rfl ti_int (by decide) rfl) ?_
  refine rs rfl rfl (ok_load rfl ti_int rfl rfl) ?_
  refine rs rfl rfl (ok_binOp rfl ti_int rfl) ?_
  refine ro_case rfl rfl (OpOk.step (ok_moveb (.inl rfl) rfl)) (fun hb => ?_) (fun hb => ?_)
  ·(try simp only [dE] at hb)
   refine rs rfl rfl (ok_fieldAddr rfl ti_api_Rec rfl rfl ti_int (by decide) rfl) ?_
   refine rs rfl rfl (ok_load rfl ti_int rfl rfl) ?_
   refine rs rfl rfl (ok_binOp rfl ti_int rfl) ?_
   refine rs rfl rfl (ok_pick rfl rfl) ?_
   refine ro_case rfl rfl (OpOk.step (ok_moveb (.inl rfl) rfl)) (fun hb => ?_) (fun hb => ?_)
   ·(try simp only [dE] at hb)
    refine rs rfl rfl (ok_fieldAddr rfl ti_api_Rec rfl rfl ti_Luint8 (by decide) rfl) ?_
    refine rs rfl rfl (ok_load rfl ti_Luint8 rfl rfl) ?_
    refine rs rfl rfl (ok_len' rfl rfl ti_Luint8 rfl (by first | exact ints_length _ _ | exact rowsA_length _ _ | exact Cms_len _ | exact mapLen _ | rfl)) ?_
    refine rs rfl rfl (ok_binOp rfl ti_int rfl) ?_
    refine rs rfl rfl (ok_pick rfl rfl) ?_
    refine rs rfl rfl (ok_move (.inr rfl)) ?_
    refine ro_nil ?_
    refine keepK hK11 [2] (by dsimp) (by dsimp) ?_
    refine T.ret (hQ _ _ _ rfl ?_).1 -- ret 3
    exact by first | (rw [decide_eq_false (fun h => by have := hbad h; omega)]; exact TEnt.fin [] (by decide) (by simp) rfl ⟨rfl, trivial⟩) | (rw [decide_eq_false (by unfold PR; omega)]; exact TEnt.fin [] (by decide) (by simp) rfl ⟨rfl, trivial⟩) | (have e : decide (PR x) = decide ((x.body.length : Int) ≤ 1048576) := (by rw [decide_eq_decide]; unfold PR; omega); rw [e]; exact TEnt.fin [] (by decide) (by simp) rfl ⟨rfl, trivial⟩)
   ·(try simp only [dE] at hb)
    refine ro_skip rfl rfl ?_
    refine ro_skip rfl rfl ?_
    refine ro_skip rfl rfl ?_
    refine ro_skip rfl rfl ?_
    refine rs rfl rfl (ok_pickb (t := false) (d := false) rfl rfl rfl) ?_
    refine rs rfl rfl (ok_moveb (c := false) (.inr rfl) rfl) ?_
    refine ro_nil ?_
    refine keepK hK11 [2] (by dsimp) (by dsimp) ?_
    refine T.ret (hQ _ _ _ rfl ?_).1 -- ret 4
    exact by first | (rw [decide_eq_false (fun h => by have := hbad h; omega)]; exact TEnt.fin [] (by decide) (by simp) rfl ⟨rfl, trivial⟩) | (rw [decide_eq_false (by unfold PR; omega)]; exact TEnt.fin [] (by decide) (by simp) rfl ⟨rfl, trivial⟩) | (have e : decide (PR x) = decide ((x.body.length : Int) ≤ 1048576) := (by rw [decide_eq_decide]; unfold PR; omega); rw [e]; exact TEnt.fin [] (by decide) (by simp) rfl ⟨rfl, trivial⟩)
  ·(try simp only [dE] at hb)
   refine ro_skip rfl rfl ?_
   refine ro_skip rfl rfl ?_
   refine ro_skip rfl rfl ?_
   refine rs rfl rfl (ok_pickb (t := false) (d := false) rfl rfl rfl) ?_
   refine rs rfl rfl (ok_moveb (c := false) (.inl rfl) rfl) ?_
   refine ro_skip rfl rfl ?_
   refine ro_skip rfl rfl ?_
   refine ro_skip rfl rfl ?_
   refine ro_skip rfl rfl ?_
   refine rs rfl rfl (ok_pickb (t := false) (d := false) rfl rfl rfl) ?_
   refine rs rfl rfl (ok_moveb (c := false) (.inr rfl) rfl) ?_
   refine ro_nil ?_
   refine keepK hK11 [2] (by dsimp) (by dsimp) ?_
   refine T.ret (hQ _ _ _ rfl ?_).1 -- ret 5
   exact by first | (rw [decide_eq_false (fun h => by have := hbad h; omega)]; exact TEnt.fin [] (by decide) (by simp) rfl ⟨rfl, trivial⟩) | (rw [decide_eq_false (by unfold PR; omega)]; exact TEnt.fin [] (by decide) (by simp) rfl ⟨rfl, trivial⟩) | (have e : decide (PR x) = decide ((x.body.length : Int) ≤ 1048576) := (by rw [decide_eq_decide]; unfold PR; omega); rw [e]; exact TEnt.fin [] (by decide) (by simp) rfl ⟨rfl, trivial⟩)
def payR (x : Rc) : List Int := (encs x.l ++ enc x.body.length 8) ++ x.body
theorem payR_len (x : Rc) : (payR x).length = 80 + x.body.length := by
  have : (encs x.l).length = 72 := by rw [encs_len]; rfl
  simp [payR, this]; omega
theorem payR_bytes {x : Rc} (h : Bytes x.body) : Bytes (payR x) := ((encs_bytes _).append (enc_bytes _ _)).append h
theorem payload_ok (x : Rc) (hb : x.body.length ≤ 1048576) : CSpec Tryz.prog 43 [] [.agg (RcC x)] [] (.fz 1 (ints .u8 (payR x))) := by
 obtain ⟨L, hL⟩ : ∃ L, x.l = L := ⟨_, rfl⟩
 have hLl : L.length = 9 := by rw [← hL]; rfl
 have hpl : payR x = (encs L ++ enc x.body.length 8) ++ x.body := by rw [← hL]; rfl
 have hel : ∀ i, (encs (L.take i)).length ≤ 72 := fun i => by rw [encs_len, List.length_take]; omega
 rw [hpl]
 refine CSpec.body Tryz.func43 rfl rfl rfl rfl rfl fun Q hQ => ?_
 refine T.seq fun K1 hK1 => ?_
 refine T.region ?_
 refine rs rfl rfl (ok_box (n := 10) rfl rfl (by decide)) ?_
 refine rs rfl rfl (ok_move (.inr rfl)) ?_
 refine ro_nil ?_
 refine keepK hK1 [1] (by dsimp) (by dsimp) ?_
 refine T.seq fun K2 hK2 => ?_
 refine T.region ?_
 refine rs rfl rfl (ok_move (.inr rfl)) ?_
 refine ro_nil ?_
 refine keepK hK2 [1, 3] (by dsimp) (by dsimp) ?_
 refine T.seq fun K3 hK3 => ?_
 refine T.seq fun K4 hK4 => ?_
 refine T.region ?_
 refine rs rfl rfl (ok_fieldAddr rfl ti_api_Rec rfl rfl ti_int (by decide) rfl) ?_
 refine rs rfl rfl (ok_load rfl ti_int rfl rfl) ?_
 refine rs rfl rfl (ok_fieldAddr rfl ti_api_Rec rfl rfl ti_int (by decide) rfl) ?_
 refine rs rfl rfl (ok_load rfl ti_int rfl rfl) ?_
 refine rs rfl rfl (ok_fieldAddr rfl ti_api_Rec rfl rfl ti_int (by decide) rfl) ?_
 refine rs rfl rfl (ok_load rfl ti_int rfl rfl) ?_
 refine rs rfl rfl (ok_fieldAddr rfl ti_api_Rec rfl rfl ti_int (by decide) rfl) ?_
 refine rs rfl rfl (ok_load rfl ti_int rfl rfl) ?_
 refine rs rfl rfl (ok_fieldAddr rfl ti_api_Rec rfl rfl ti_int (by decide) rfl) ?_
 refine rs rfl rfl (ok_load rfl ti_int rfl rfl) ?_
 refine rs rfl rfl (ok_fieldAddr rfl ti_api_Rec rfl rfl ti_int (by decide) rfl) ?_
 refine rs rfl rfl (ok_load rfl ti_int rfl rfl) ?_
 refine rs rfl rfl (ok_fieldAddr rfl ti_api_Rec rfl rfl ti_int (by decide) rfl) ?_
 refine rs rfl rfl (ok_load rfl ti_int rfl rfl) ?_
 refine rs rfl rfl (ok_fieldAddr rfl ti_api_Rec rfl rfl ti_int (by decide) rfl) ?_
 refine rs rfl rfl (ok_load rfl ti_int rfl rfl) ?_
 refine rs rfl rfl (ok_fieldAddr rfl ti_api_Rec rfl rfl ti_int (by decide) rfl) ?_
 refine rs rfl rfl (ok_load rfl ti_int rfl rfl) ?_
 refine rs rfl rfl ((ok_buildSlice (n := 9) (ps := #[(0, .tmp 7), (1, .tmp 9), (2, .tmp 11), (3, .tmp 13), (4, .tmp 15), (5, .tmp 17), (6, .tmp 19), (7, .tmp 21), (8, .tmp 23)]) rfl ti_Lint rfl ti_int (by decide) rfl rfl (by decide) rfl rfl rfl).eq (x' := .sl 1 0 9) (H'' := [some (RcB x), some ⟨1, true, ints .i64 L⟩]) rfl (by rw [← hL]; rfl)) ?_
 refine rs rfl rfl (ok_len' rfl rfl ti_Lint rfl (by first | exact ints_length _ _ | exact rowsA_length _ _ | exact Cms_len _ | exact mapLen _ | rfl)) ?_
 refine rs rfl rfl (ok_move (.inl rfl)) ?_
 refine ro_nil ?_
 refine keepK hK4 [1, 3, 24, 25, 26] (by dsimp) (by dsimp) ?_
 refine T.block ?_
 refine T.loopI (ι := Nat) (fun i => i ≤ 9) (fun i => 9 - i) (fun i => ([(1, .ref 0 0 0), (3, .fz 1 (ints .u8 (encs (L.take i)))), (24, .sl 1 0 9), (25, .int 9), (26, .int i)], [some (RcB x), some ⟨1, true, ints .i64 L⟩])) 0 (Nat.zero_le _) ((TEnt.put1 3 (Ent.nil 1)).trans (TEnt.toH rfl ⟨rfl, rfl, rfl, rfl, rfl, trivial⟩)) (fun i hi => ?_) -- loop 1
 refine T.seq fun K5 hK5 => ?_
 refine T.region ?_
 refine rs rfl rfl (ok_binOp rfl ti_int rfl) ?_
 refine ro_nil ?_
 refine keepK hK5 [1, 3, 24, 25, 26, 27] (by dsimp) (by dsimp) ?_
 refine T.seq fun K6 hK6 => ?_
 refine T.cond rfl (fun hc => ?_) (fun hc => ?_) -- cond 1
 ·(try simp only [dE] at hc)
  have hi9 : i < 9 := by omega
  obtain ⟨v, hv⟩ : ∃ v, L[i]? = some v := ⟨_, List.getElem?_eq_getElem (by omega)⟩
  have htk : encs (L.take i) ++ enc v 8 = encs (L.take (i + 1)) := by rw [take_succ_get hv, encs_snoc]
  have hel' := hel i
  refine T.skip ?_
  refine keepK hK6 [1, 3, 24, 25, 26] (by dsimp) (by dsimp) ?_
  refine T.seq fun K7 hK7 => ?_
  refine T.block ?_
  refine T.seq fun K8 hK8 => ?_
  refine T.region ?_
  refine rs rfl rfl (by exact ok_index_sl rfl ti_Lint rfl ti_int rfl rfl rfl rfl (by omega) (by omega)) ?_
  refine rs rfl rfl (by exact ok_load_ints rfl ti_int rfl rfl rfl rfl (by simpa using hv)) ?_
  refine rs rfl rfl (ok_move (.inr rfl)) ?_
  refine ro_nil ?_
  refine keepK hK8 [1, 3, 5, 24, 25, 26] (by dsimp) (by dsimp) ?_
  refine T.region ?_
  refine rs rfl rfl (ok_move (.inl rfl)) ?_
  refine rs rfl rfl (ok_move (.inl rfl)) ?_
  refine ro rfl rfl (ok_call rfl rfl rfl ((pkint_frz htk (by omega)).plain (by simp [renL, AV.ren, renL_ints]) (by simp [AV.ren, renL_ints]))) ?_
  refine rs rfl rfl (ok_move (.inr rfl)) ?_
  refine ro_nil ?_
  refine keepK hK7 [1, 3, 24, 25, 26] (by dsimp) (by dsimp) ?_
  refine T.region ?_
  refine rs rfl rfl (ok_add64 rfl ti_int rfl rfl (by omega) (by omega)) ?_
  refine rs rfl rfl (ok_move (.inl rfl)) ?_
  refine ro_nil ?_
  exact ⟨i + 1, by omega, by omega, TEnt.toH rfl ⟨rfl, rfl, rfl, rfl, rfl, trivial⟩⟩
 ·(try simp only [dE] at hc)
  have hi9 : i = 9 := by omega
  subst hi9
  have hel' := hel 9
  rw [List.take_of_length_le (by omega)] at hel' ⊢
  refine T.exit ?_
  refine keepK hK3 [1, 3] (by dsimp) (by dsimp) ?_
  refine T.seq fun K9 hK9 => ?_
  refine T.region ?_
  refine rs rfl rfl (ok_move (.inl rfl)) ?_
  refine rs rfl rfl (ok_fieldAddr rfl ti_api_Rec rfl rfl ti_Luint8 (by decide) rfl) ?_
  refine rs rfl rfl (ok_load rfl ti_Luint8 rfl rfl) ?_
  refine ro rfl rfl (ok_call rfl rfl rfl ((pkbytes_frz (l := encs L) rfl (by omega) hb).plain (by simp [renL, AV.ren, renL_ints]) (by simp [AV.ren, renL_ints]))) ?_
  refine rs rfl rfl (ok_move (.inr rfl)) ?_
  refine ro_nil ?_
  refine keepK hK9 [2] (by dsimp) (by dsimp) ?_
  refine T.ret (hQ _ _ _ rfl ?_).1 -- ret 1
  exact TEnt.fin [] (by decide) (by simp) rfl ⟨by simp [tupA, AV.ren, renL_ints], trivial⟩
theorem fits_ok (b : Int) : CSpec Tryz.prog 42 [] [.int b] [] (.b (decide (1 ≤ b ∧ b ≤ 4096))) := by
 refine CSpec.body Tryz.func42 rfl rfl rfl rfl rfl fun Q hQ => ?_
 refine T.seq fun K1 hK1 => ?_
 refine T.region ?_
 refine rs rfl rfl (ok_moveb (c := false) (.inr rfl) rfl) ?_
 refine ro_nil ?_
 refine keepK hK1 [0] (by dsimp) (by dsimp) ?_
 refine T.seq fun K2 hK2 => ?_
 refine T.region ?_
 refine rs rfl rfl (ok_move (.inl rfl)) ?_
 refine rs rfl rfl (ok_binOp rfl ti_int rfl) ?_
 refine ro_case rfl rfl (OpOk.step (ok_moveb (.inl rfl) rfl)) (fun hb => ?_) (fun hb => ?_)
 ·(try simp only [dE] at hb)
  refine rs rfl rfl (ok_move (.inl rfl)) ?_
  refine rs rfl rfl (ok_binOp rfl ti_int rfl) ?_
  refine rs rfl rfl (ok_pick rfl rfl) ?_
  refine rs rfl rfl (ok_move (.inr rfl)) ?_
  refine ro_nil ?_
  refine keepK hK2 [2] (by dsimp) (by dsimp) ?_
  refine T.ret (hQ _ _ _ rfl ?_).1 -- ret 1
  exact by first | (rw [decide_eq_false (by omega)]; exact TEnt.toH rfl ⟨rfl, trivial⟩) | (have e : decide (1 ≤ b ∧ b ≤ 4096) = decide (b ≤ 4096) := (by rw [decide_eq_decide]; omega); rw [e]; exact TEnt.toH rfl ⟨rfl, trivial⟩)
 ·(try simp only [dE] at hb)
  refine ro_skip rfl rfl ?_
  refine ro_skip rfl rfl ?_
  refine rs rfl rfl (ok_pickb (t := false) (d := false) rfl rfl rfl) ?_
  refine rs rfl rfl (ok_moveb (c := false) (.inr rfl) rfl) ?_
  refine ro_nil ?_
  refine keepK hK2 [2] (by dsimp) (by dsimp) ?_
  refine T.ret (hQ _ _ _ rfl ?_).1 -- ret 2
  exact by first | (rw [decide_eq_false (by omega)]; exact TEnt.toH rfl ⟨rfl, trivial⟩) | (have e : decide (1 ≤ b ∧ b ≤ 4096) = decide (b ≤ 4096) := (by rw [decide_eq_decide]; omega); rw [e]; exact TEnt.toH rfl ⟨rfl, trivial⟩)
def crcV (l : List Int) : Int := 4294967295 - l.foldl step 4294967295
theorem crcV_bd (l : List Int) : 0 ≤ crcV l ∧ crcV l ≤ 4294967295 := by
  have := fold_u l 4294967295 ⟨by omega, by omega⟩
  unfold crcV
  unfold U32 at this
  omega
theorem crcOf_ok {l : List Int} (hb : Bytes l) (hl : l.length ≤ 140737488355328) : CSpec Tryz.prog 44 [] [.fz 1 (ints .u8 l)] [] (.v (.int .u32 (crcV l))) := crc_of l hb hl
theorem refOf_ok {l : List Int} (hb : Bytes l) (hl : l.length ≤ 140737488355328) : CSpec Tryz.prog 51 [] [.fz 1 (ints .u8 l)] [] (.v (.int .u32 (crcV l))) := ref_of l hb hl
def headR (p : List Int) : List Int := enc p.length 8 ++ enc (crcV p) 8
theorem headR_len (p : List Int) : (headR p).length = 16 := by simp [headR]
/-- A record as bytes. -/
def putR (x : Rc) (b : Int) : List Int := if PR x ∧ 1 ≤ b ∧ b ≤ 4096 then padL (headR (payR x) ++ payR x) b.toNat else []
theorem putR_bad {x : Rc} {b : Int} (h : ¬ (PR x ∧ 1 ≤ b ∧ b ≤ 4096)) : putR x b = [] := if_neg h
theorem putR_good {x : Rc} {b : Int} (h : PR x ∧ 1 ≤ b ∧ b ≤ 4096) : putR x b = padL (headR (payR x) ++ payR x) b.toNat := if_pos h
theorem wrap_crc (p : List Int) : IntKind.i64.wrap (crcV p) = crcV p := by
  have := crcV_bd p
  exact wrap_i64 (by omega) (by omega)
theorem put_bad (x : Rc) (b : Int) (hB : x.body.length ≤ 140737488355328) (h : ¬ (PR x ∧ 1 ≤ b ∧ b ≤ 4096)) : CSpec Tryz.prog 21 [] [.agg (RcC x), .int b] [] (.v (.slice none 0 0)) := by
 refine CSpec.body Tryz.func21 rfl rfl rfl rfl rfl fun Q hQ => ?_
 refine T.seq fun K1 hK1 => ?_
 refine T.region ?_
 refine rs rfl rfl (ok_box (n := 10) rfl rfl (by decide)) ?_
 refine rs rfl rfl (ok_move (.inr rfl)) ?_
 refine ro_nil ?_
 refine keepK hK1 [1, 2] (by dsimp) (by dsimp) ?_
 refine T.seq fun K2 hK2 => ?_
 refine T.seq fun K3 hK3 => ?_
 refine T.region ?_
 refine rs rfl rfl (ok_load rfl ti_api_Rec rfl rfl) ?_
 refine ro rfl rfl (ok_call rfl rfl rfl ((right_ok x hB).plain (by show renL (pos []) [.agg (RcC x)] = _; simp [renL, AV.ren, RcC_ren]) rfl)) ?_
 refine rs rfl rfl (ok_unOp rfl rfl) ?_
 refine ro_case rfl rfl (OpOk.step (ok_moveb (.inl rfl) rfl)) (fun hb => ?_) (fun hb => ?_)
 ·(try simp only [dE] at hb)
  refine ro_skip rfl rfl ?_
  refine ro_skip rfl rfl ?_
  refine ro_skip rfl rfl ?_
  refine rs rfl rfl (ok_pickb (t := true) (d := true) rfl rfl rfl) ?_
  refine ro_nil ?_
  refine keepK hK3 [1, 2, 14] (by dsimp) (by dsimp) ?_
  refine T.cond_true rfl ?_
  refine T.seq fun K4 hK4 => ?_
  refine T.region ?_
  refine rs rfl rfl (ok_move (.inr rfl)) ?_
  refine ro_nil ?_
  refine keepK hK4 [4] (by dsimp) (by dsimp) ?_
  refine T.ret (hQ _ _ _ rfl ?_).1 -- ret 1
  exact TEnt.fin [] (by decide) (by simp) rfl ⟨rfl, trivial⟩
 ·(try simp only [dE] at hb)
  have h' : ¬ (1 ≤ b ∧ b ≤ 4096) := fun h2 => h ⟨hb, h2⟩
  refine rs rfl rfl (ok_move (.inl rfl)) ?_
  refine ro rfl rfl (ok_call rfl rfl rfl ((fits_ok b).plain rfl rfl)) ?_
  refine rs rfl rfl (OpOk.bool (d := true) (ok_unOp rfl rfl) (by simp; omega)) ?_
  refine rs rfl rfl (ok_pickb (t := false) (d := true) rfl rfl rfl) ?_
  refine ro_nil ?_
  refine keepK hK3 [1, 2, 14] (by dsimp) (by dsimp) ?_
  refine T.cond_true rfl ?_
  refine T.seq fun K5 hK5 => ?_
  refine T.region ?_
  refine rs rfl rfl (ok_move (.inr rfl)) ?_
  refine ro_nil ?_
  refine keepK hK5 [4] (by dsimp) (by dsimp) ?_
  refine T.ret (hQ _ _ _ rfl ?_).1 -- ret 2
  exact TEnt.fin [] (by decide) (by simp) rfl ⟨rfl, trivial⟩
theorem put_good (x : Rc) (b : Nat) (hB : Bytes x.body) (h : PR x) (hb : 1 ≤ b ∧ b ≤ 4096) : CSpec Tryz.prog 21 [] [.agg (RcC x), .int b] [some ⟨1, true, ints .u8 (padL (headR (payR x) ++ payR x) b)⟩] (.sl 0 0 (padL (headR (payR x) ++ payR x) b).length) := by
 have hbl : x.body.length ≤ 1048576 := by unfold PR at h; omega
 obtain ⟨P, hP⟩ : ∃ P, payR x = P := ⟨_, rfl⟩
 have hPl : P.length = 80 + x.body.length := by rw [← hP]; exact payR_len x
 have hPB : Bytes P := hP ▸ payR_bytes hB
 have hH := headR_len P
 rw [hP]
 refine CSpec.body Tryz.func21 rfl rfl rfl rfl rfl fun Q hQ => ?_
 refine T.seq fun K1 hK1 => ?_
 refine T.region ?_
 refine rs rfl rfl (ok_box (n := 10) rfl rfl (by decide)) ?_
 refine rs rfl rfl (ok_move (.inr rfl)) ?_
 refine ro_nil ?_
 refine keepK hK1 [1, 2] (by dsimp) (by dsimp) ?_
 refine T.seq fun K2 hK2 => ?_
 refine T.seq fun K3 hK3 => ?_
 refine T.region ?_
 refine rs rfl rfl (ok_load rfl ti_api_Rec rfl rfl) ?_
 refine ro rfl rfl (ok_call rfl rfl rfl (((right_ok x (by omega)).plain (by show renL (pos []) [.agg (RcC x)] = _; simp [renL, AV.ren, RcC_ren]) rfl).eq (x' := .b true) (by rw [decide_eq_true h]) rfl)) ?_
 refine rs rfl rfl (OpOk.bool (d := false) (ok_unOp rfl rfl) (rfl)) ?_
 refine rs rfl rfl (ok_moveb (c := false) (.inl rfl) rfl) ?_
 refine rs rfl rfl (ok_move (.inl rfl)) ?_
 refine ro rfl rfl (ok_call rfl rfl rfl (((fits_ok b).plain rfl rfl).eq (x' := .b true) (by rw [decide_eq_true (by omega)]) rfl)) ?_
 refine rs rfl rfl (OpOk.bool (d := false) (ok_unOp rfl rfl) (rfl)) ?_
 refine rs rfl rfl (ok_pickb (t := false) (d := false) rfl rfl rfl) ?_
 refine ro_nil ?_
 refine keepK hK3 [1, 2, 14] (by dsimp) (by dsimp) ?_
 refine T.cond_false rfl ?_
 refine T.skip ?_
 refine keepK hK2 [1, 2] (by dsimp) (by dsimp) ?_
 refine T.seq fun K4 hK4 => ?_
 refine T.region ?_
 refine rs rfl rfl (ok_load rfl ti_api_Rec rfl rfl) ?_
 refine ro rfl rfl (ok_call rfl rfl rfl (((payload_ok x hbl).plain (by show renL (pos []) [.agg (RcC x)] = _; simp [renL, AV.ren, RcC_ren]) (by simp [AV.ren, renL_ints])).eq (x' := .fz 1 (ints .u8 P)) (by rw [hP]) rfl)) ?_
 refine rs rfl rfl (ok_move (.inr rfl)) ?_
 refine ro_nil ?_
 refine keepK hK4 [1, 5] (by dsimp) (by dsimp) ?_
 refine T.seq fun K5 hK5 => ?_
 refine T.region ?_
 refine rs rfl rfl (ok_move (.inl rfl)) ?_
 refine rs rfl rfl (ok_len' rfl rfl ti_Luint8 rfl (by first | exact ints_length _ _ | exact rowsA_length _ _ | exact Cms_len _ | exact mapLen _ | rfl)) ?_
 refine ro rfl rfl (ok_call rfl rfl rfl (((pkint_frz (l := []) (r := enc P.length 8) (v := P.length) rfl (by simp)).plain rfl (by simp [AV.ren, renL_ints])).view (EntL.cons (Ent.nil 1) (EntL.refl _)))) ?_
 refine rs rfl rfl (ok_move (.inl rfl)) ?_
 refine ro rfl rfl (ok_call rfl rfl rfl ((crcOf_ok hPB (by omega)).plain (by simp [renL, AV.ren, renL_ints]) rfl)) ?_
 refine rs rfl rfl ((ok_conv_int rfl ti_uint32 ti_int rfl rfl).eq (x' := .int (crcV P)) (by rw [wrap_crc]) rfl) ?_
 refine ro rfl rfl (ok_call rfl rfl rfl ((pkint_new (enc P.length 8) (crcV P) (by simp)).fresh (x' := .sl 1 0 (headR P).length) (H' := [some ⟨1, true, ints .u8 (headR P)⟩]) (by simp [renL, AV.ren, renL_ints]) rfl (by simp [renH, Blk.ren, renL_ints, headR]))) ?_
 refine rs rfl rfl (ok_move (.inr rfl)) ?_
 refine ro_nil ?_
 refine keepK hK5 [1, 5, 6] (by dsimp) (by dsimp) ?_
 refine T.seq fun K6 hK6 => ?_
 refine T.region ?_
 refine rs rfl rfl (ok_move (.inl rfl)) ?_
 refine rs rfl rfl (ok_move (.inl rfl)) ?_
 refine rs rfl rfl (by exact ok_append_ints (k := .u8) (xs := headR P) (ys := P) rfl ti_Luint8 rfl ti_uint8 rfl (by decide) rfl ti_Luint8 (by simp) rfl rfl rfl rfl rfl rfl rfl rfl rfl (by simp [headR_len]; omega)) ?_
 refine rs rfl rfl (ok_move (.inl rfl)) ?_
 refine ro rfl rfl (ok_call rfl rfl rfl ((pad_new (headR P ++ P) b (by omega) (by simp [headR_len]; omega)).lendI (EntL.cons (Ent.lent 2 1 (ints .u8 (headR P ++ P)) rfl (by simp)) (EntL.refl _)) (by simp [renL, AV.ren, renL_ints]))) ?_
 refine rs rfl rfl (ok_move (.inr rfl)) ?_
 refine ro_nil ?_
 refine keepK hK6 [4] (by dsimp) (by dsimp) ?_
 refine T.ret (hQ _ _ _ rfl ?_).1 -- ret 1
 exact TEnt.fin [3] (by decide) (by simp) (by simp [normH, hget, Blk.ren, renL_ints]) ⟨rfl, trivial⟩
theorem put_ok (x : Rc) (b : Int) (hB : Bytes x.body) (hl : x.body.length ≤ 140737488355328) : CSpec Tryz.prog 21 [] [.agg (RcC x), .int b] [] (.fz 1 (ints .u8 (putR x b))) := by
  by_cases h : PR x ∧ 1 ≤ b ∧ b ≤ 4096
  · rw [putR_good h]
    obtain ⟨n, rfl⟩ := Int.eq_ofNat_of_zero_le (show 0 ≤ b by omega)
    exact (put_good x n hB h.1 (by omega)).frz' rfl
  · rw [putR_bad h]
    exact (put_bad x b hl h).res (Ent.nil 1)
theorem putR_len (x : Rc) (b : Int) : (putR x b).length ≤ 2000000 := by
  unfold putR
  split
  · rename_i h
    have hx := h.1
    unfold PR at hx
    have h1 := payR_len x
    have h2 := headR_len (payR x)
    have h3 := Nat.mod_lt (b.toNat - (headR (payR x) ++ payR x).length % b.toNat) (show b.toNat > 0 by omega)
    simp only [padL, List.length_append, List.length_replicate] at h3 ⊢
    omega
  · simp
def rc0 : Rc := ⟨0, 0, 0, 0, 0, 0, 0, 0, 0, []⟩
theorem rc0_view {H : Heap} : Ent H (.agg [.int 0, .int 0, .int 0, .int 0, .int 0, .int 0, .int 0, .int 0, .int 0, .v (.slice none 0 0)]) (.agg (RcC rc0)) :=
  Ent.agg (EntL.append (l := [.int 0, .int 0, .int 0, .int 0, .int 0, .int 0, .int 0, .int 0, .int 0]) (EntL.refl _) (EntL.cons (Ent.nil 1) EntL.nil))
theorem rlist_frz' {x : Rc} {L : List Int} (hL : x.l = L) {H : Heap} : CallOk Tryz.prog 48 H [.agg (RcC x)] (.fz 1 (ints .i64 L)) H := hL ▸ (rlist_frz x).plain (by simp [renL, AV.ren, RcC_ren]) (by simp [AV.ren, renL_ints])
theorem rrput_bad (x : Rc) (b : Int) (hB : x.body.length ≤ 140737488355328) (h : ¬ (PR x ∧ 1 ≤ b ∧ b ≤ 4096)) : CSpec Tryz.prog 23 [] [.agg (RcC x), .int b] [] (.v (.slice none 0 0)) := by
 refine CSpec.body Tryz.func23 rfl rfl rfl rfl rfl fun Q hQ => ?_
 refine T.seq fun K1 hK1 => ?_
 refine T.region ?_
 refine rs rfl rfl (ok_box (n := 10) rfl rfl (by decide)) ?_
 refine rs rfl rfl (ok_move (.inr rfl)) ?_
 refine ro_nil ?_
 refine keepK hK1 [1, 2] (by dsimp) (by dsimp) ?_
 refine T.seq fun K2 hK2 => ?_
 refine T.seq fun K3 hK3 => ?_
 refine T.region ?_
 refine rs rfl rfl (ok_load rfl ti_api_Rec rfl rfl) ?_
 refine ro rfl rfl (ok_call rfl rfl rfl ((rright_ok x hB).plain (by show renL (pos []) [.agg (RcC x)] = _; simp [renL, AV.ren, RcC_ren]) rfl)) ?_
 refine rs rfl rfl (ok_unOp rfl rfl) ?_
 refine ro_case rfl rfl (OpOk.step (ok_moveb (.inl rfl) rfl)) (fun hb => ?_) (fun hb => ?_)
 ·(try simp only [dE] at hb)
  refine ro_skip rfl rfl ?_
  refine ro_skip rfl rfl ?_
  refine rs rfl rfl (ok_pickb (t := true) (d := true) rfl rfl rfl) ?_
  refine rs rfl rfl (ok_moveb (c := true) (.inl rfl) rfl) ?_
  refine ro_skip rfl rfl ?_
  refine ro_skip rfl rfl ?_
  refine rs rfl rfl (ok_pickb (t := true) (d := true) rfl rfl rfl) ?_
  refine ro_nil ?_
  refine keepK hK3 [1, 2, 19] (by dsimp) (by dsimp) ?_
  refine T.cond_true rfl ?_
  refine T.seq fun K4 hK4 => ?_
  refine T.region ?_
  refine rs rfl rfl (ok_move (.inr rfl)) ?_
  refine ro_nil ?_
  refine keepK hK4 [4] (by dsimp) (by dsimp) ?_
  refine T.ret (hQ _ _ _ rfl ?_).1 -- ret 1
  exact TEnt.fin [] (by decide) (by simp) rfl ⟨rfl, trivial⟩
 ·(try simp only [dE] at hb)
  have h' : ¬ (1 ≤ b ∧ b ≤ 4096) := fun h2 => h ⟨hb, h2⟩
  refine rs rfl rfl (ok_move (.inl rfl)) ?_
  refine rs rfl rfl (ok_binOp rfl ti_int rfl) ?_
  refine rs rfl rfl (ok_pick rfl rfl) ?_
  refine ro_case rfl rfl (OpOk.step (ok_moveb (.inl rfl) rfl)) (fun hb => ?_) (fun hb => ?_)
  ·(try simp only [dE] at hb)
   refine ro_skip rfl rfl ?_
   refine ro_skip rfl rfl ?_
   refine rs rfl rfl (ok_pickb (t := true) (d := true) rfl rfl rfl) ?_
   refine ro_nil ?_
   refine keepK hK3 [1, 2, 19] (by dsimp) (by dsimp) ?_
   refine T.cond_true rfl ?_
   refine T.seq fun K5 hK5 => ?_
   refine T.region ?_
   refine rs rfl rfl (ok_move (.inr rfl)) ?_
   refine ro_nil ?_
   refine keepK hK5 [4] (by dsimp) (by dsimp) ?_
   refine T.ret (hQ _ _ _ rfl ?_).1 -- ret 2
   exact TEnt.fin [] (by decide) (by simp) rfl ⟨rfl, trivial⟩
  ·(try simp only [dE] at hb)
   have h'' : b > 4096 := by omega
   refine rs rfl rfl (ok_move (.inl rfl)) ?_
   refine rs rfl rfl (ok_binOp rfl ti_int rfl) ?_
   refine rs rfl rfl (ok_pick rfl rfl) ?_
   refine ro_nil ?_
   refine keepK hK3 [1, 2, 19] (by dsimp) (by dsimp) ?_
   refine T.cond rfl (fun hc => ?_) (fun hc => ?_) -- cond 1
   ·(try simp only [dE] at hc)
    refine T.seq fun K6 hK6 => ?_
    refine T.region ?_
    refine rs rfl rfl (ok_move (.inr rfl)) ?_
    refine ro_nil ?_
    refine keepK hK6 [4] (by dsimp) (by dsimp) ?_
    refine T.ret (hQ _ _ _ rfl ?_).1 -- ret 3
    exact TEnt.fin [] (by decide) (by simp) rfl ⟨rfl, trivial⟩
   ·(try simp only [dE] at hc)
    exact absurd h'' hc
theorem rrput_good (x : Rc) (b : Nat) (hB : Bytes x.body) (h : PR x) (hb : 1 ≤ b ∧ b ≤ 4096) : CSpec Tryz.prog 23 [] [.agg (RcC x), .int b] [some ⟨1, true, ints .u8 (padL (headR (payR x) ++ payR x) b)⟩] (.sl 0 0 (padL (headR (payR x) ++ payR x) b).length) := by
 have hbl : x.body.length ≤ 1048576 := by unfold PR at h; omega
 obtain ⟨L, hL⟩ : ∃ L, x.l = L := ⟨_, rfl⟩
 have hLl : L.length = 9 := by rw [← hL]; rfl
 obtain ⟨P, hP⟩ : ∃ P, payR x = P := ⟨_, rfl⟩
 have hPL : encs L ++ (enc x.body.length 8 ++ x.body) = P := by rw [← hP, ← hL]; simp [payR]
 have hPl : P.length = 80 + x.body.length := by rw [← hP]; exact payR_len x
 have hPB : Bytes P := hP ▸ payR_bytes hB
 have hH := headR_len P
 have hel : ∀ i, (encs (L.take i)).length ≤ 72 := fun i => by rw [encs_len, List.length_take]; omega
 rw [hP]
 refine CSpec.body Tryz.func23 rfl rfl rfl rfl rfl fun Q hQ => ?_
 refine T.seq fun K1 hK1 => ?_
 refine T.region ?_
 refine rs rfl rfl (ok_box (n := 10) rfl rfl (by decide)) ?_
 refine rs rfl rfl (ok_move (.inr rfl)) ?_
 refine ro_nil ?_
 refine keepK hK1 [1, 2] (by dsimp) (by dsimp) ?_
 refine T.seq fun K2 hK2 => ?_
 refine T.seq fun K3 hK3 => ?_
 refine T.region ?_
 refine rs rfl rfl (ok_load rfl ti_api_Rec rfl rfl) ?_
 refine ro rfl rfl (ok_call rfl rfl rfl (((rright_ok x (by omega)).plain (by show renL (pos []) [.agg (RcC x)] = _; simp [renL, AV.ren, RcC_ren]) rfl).eq (x' := .b true) (by rw [decide_eq_true h]) rfl)) ?_
 refine rs rfl rfl (OpOk.bool (d := false) (ok_unOp rfl rfl) (rfl)) ?_
 refine rs rfl rfl (ok_moveb (c := false) (.inl rfl) rfl) ?_
 refine rs rfl rfl (ok_move (.inl rfl)) ?_
 refine rs rfl rfl (OpOk.bool (d := false) (ok_binOp rfl ti_int rfl) (by simp; omega)) ?_
 refine rs rfl rfl (ok_pickb (t := false) (d := false) rfl rfl rfl) ?_
 refine rs rfl rfl (ok_moveb (c := false) (.inl rfl) rfl) ?_
 refine rs rfl rfl (ok_move (.inl rfl)) ?_
 refine rs rfl rfl (OpOk.bool (d := false) (ok_binOp rfl ti_int rfl) (by simp; omega)) ?_
 refine rs rfl rfl (ok_pickb (t := false) (d := false) rfl rfl rfl) ?_
 refine ro_nil ?_
 refine keepK hK3 [1, 2, 19] (by dsimp) (by dsimp) ?_
 refine T.cond_false rfl ?_
 refine T.skip ?_
 refine keepK hK2 [1, 2] (by dsimp) (by dsimp) ?_
 refine T.seq fun K4 hK4 => ?_
 refine T.region ?_
 refine rs rfl rfl (ok_move (.inr rfl)) ?_
 refine ro_nil ?_
 refine keepK hK4 [1, 2, 5] (by dsimp) (by dsimp) ?_
 refine T.seq fun K5 hK5 => ?_
 refine T.region ?_
 refine rs rfl rfl (ok_load rfl ti_api_Rec rfl rfl) ?_
 refine ro rfl rfl (ok_call rfl rfl rfl (rlist_frz' hL)) ?_
 refine rs rfl rfl (ok_move (.inr rfl)) ?_
 refine ro_nil ?_
 refine keepK hK5 [1, 2, 5, 6] (by dsimp) (by dsimp) ?_
 refine T.seq fun K6 hK6 => ?_
 refine T.seq fun K7 hK7 => ?_
 refine T.region ?_
 refine rs rfl rfl (ok_move (.inr rfl)) ?_
 refine ro_nil ?_
 refine keepK hK7 [1, 2, 5, 6, 7] (by dsimp) (by dsimp) ?_
 refine T.block ?_
 refine T.loopI (ι := Nat) (fun i => i ≤ 9) (fun i => 9 - i) (fun i => ([(1, .int b), (2, .ref 0 0 0), (5, .sl 1 0 (encs (L.take i)).length), (6, .fz 1 (ints .i64 L)), (7, .int i)], [some (RcB x), some ⟨1, true, ints .u8 (encs (L.take i))⟩])) 0 (Nat.zero_le _) ((TEnt.empty 5 1 (by decide) (.inr rfl)).trans (TEnt.toH rfl ⟨rfl, rfl, rfl, rfl, rfl, trivial⟩)) (fun i hi => ?_) -- loop 1
 refine T.seq fun K8 hK8 => ?_
 refine T.seq fun K9 hK9 => ?_
 refine T.region ?_
 refine rs rfl rfl (ok_move (.inl rfl)) ?_
 refine rs rfl rfl (ok_move (.inl rfl)) ?_
 refine rs rfl rfl (ok_len' rfl rfl ti_Lint rfl (by first | exact ints_length _ _ | exact rowsA_length _ _ | exact Cms_len _ | exact mapLen _ | rfl)) ?_
 refine rs rfl rfl (ok_binOp rfl ti_int rfl) ?_
 refine ro_nil ?_
 refine keepK hK9 [1, 2, 5, 6, 7, 25] (by dsimp) (by dsimp) ?_
 refine T.cond rfl (fun hc => ?_) (fun hc => ?_) -- cond 1
 ·(try simp only [dE] at hc)
  have hi9 : i < 9 := by omega
  obtain ⟨v, hv⟩ : ∃ v, L[i]? = some v := ⟨_, List.getElem?_eq_getElem (by omega)⟩
  have hen : encs (L.take (i + 1)) = encs (L.take i) ++ enc v 8 := by rw [take_succ_get hv, encs_snoc]
  have hel' := hel i
  refine T.skip ?_
  refine keepK hK8 [1, 2, 5, 6, 7] (by dsimp) (by dsimp) ?_
  refine T.seq fun K10 hK10 => ?_
  refine T.block ?_
  refine T.region ?_
  refine rs rfl rfl (ok_move (.inl rfl)) ?_
  refine rs rfl rfl (ok_move (.inl rfl)) ?_
  refine rs rfl rfl (ok_move (.inl rfl)) ?_
  refine rs rfl rfl (by exact ok_index_ints rfl ti_Lint rfl ti_int rfl rfl rfl (by omega) (by simpa using hv)) ?_
  refine rs rfl rfl (ok_load rfl ti_int rfl rfl) ?_
  refine ro rfl rfl (ok_call rfl rfl rfl ((rint_frz v).plain rfl (by simp [AV.ren, renL_ints]))) ?_
  refine rs rfl rfl (by exact ok_append_ints (k := .u8) (xs := encs (L.take i)) (ys := enc v 8) rfl ti_Luint8 rfl ti_uint8 rfl (by decide) rfl ti_Luint8 (by simp) rfl rfl rfl rfl rfl rfl rfl rfl rfl (by simp <;> omega)) ?_
  refine rs rfl rfl (ok_move (.inr rfl)) ?_
  refine ro_nil ?_
  refine keepK hK10 [1, 2, 5, 6, 7] (by dsimp) (by dsimp) ?_
  refine T.region ?_
  refine rs rfl rfl (ok_move (.inl rfl)) ?_
  refine rs rfl rfl (ok_add64 rfl ti_int rfl rfl (by omega) (by omega)) ?_
  refine rs rfl rfl (ok_move (.inr rfl)) ?_
  refine ro_nil ?_
  exact ⟨i + 1, by omega, by omega, TEnt.fin [0, 2] (by decide) (by simp) (by rw [hen]; simp [normH, hget, IB_ren, RcB_ren]) ⟨rfl, rfl, by rw [hen]; rfl, by simp [AV.ren, renL_ints], rfl, trivial⟩⟩
 ·(try simp only [dE] at hc)
  have hi9 : i = 9 := by omega
  subst hi9
  have hel' := hel 9
  rw [List.take_of_length_le (by omega)] at hel' ⊢
  refine T.exit ?_
  refine keepK hK6 [1, 2, 5] (by dsimp) (by dsimp) ?_
  refine T.seq fun K11 hK11 => ?_
  refine T.region ?_
  refine rs rfl rfl (ok_move (.inl rfl)) ?_
  refine rs rfl rfl (ok_fieldAddr rfl ti_api_Rec rfl rfl ti_Luint8 (by decide) rfl) ?_
  refine rs rfl rfl (ok_load rfl ti_Luint8 rfl rfl) ?_
  refine ro rfl rfl (ok_call rfl rfl rfl ((rbytesput_frz (l := x.body) rfl (by omega)).plain (by simp [renL, AV.ren, renL_ints]) (by simp [AV.ren, renL_ints]))) ?_
  refine rs rfl rfl ((ok_append_ints (k := .u8) (xs := encs L) (ys := enc x.body.length 8 ++ x.body) rfl ti_Luint8 rfl ti_uint8 rfl (by decide) rfl ti_Luint8 (by simp) rfl rfl rfl rfl rfl rfl rfl rfl rfl (by simp; omega)).eq (x' := .sl 2 0 P.length) (H'' := [some (RcB x), none, some ⟨1, true, ints .u8 P⟩]) (by rw [hPL]; rfl) (by rw [hPL]; rfl)) ?_
  refine rs rfl rfl (ok_move (.inr rfl)) ?_
  refine ro_nil ?_
  refine keepK hK11 [1, 5] (by dsimp) (by dsimp) ?_
  refine T.seq fun K12 hK12 => ?_
  refine T.region ?_
  refine rs rfl rfl (ok_move (.inl rfl)) ?_
  refine rs rfl rfl (ok_len' rfl rfl ti_Luint8 rfl (by first | exact ints_length _ _ | exact rowsA_length _ _ | exact Cms_len _ | exact mapLen _ | rfl)) ?_
  refine ro rfl rfl (ok_call rfl rfl rfl ((rint_new P.length).fresh (x' := .sl 3 0 8) (H' := [some ⟨1, true, ints .u8 (enc P.length 8)⟩]) rfl rfl (by simp [renH, Blk.ren, renL_ints]))) ?_
  refine rs rfl rfl (ok_move (.inl rfl)) ?_
  refine ro rfl rfl (ok_call rfl rfl rfl ((refOf_ok hPB (by omega)).lendV (EntL.cons (Ent.lent 2 1 (ints .u8 P) rfl (by simp)) EntL.nil) (by simp [renL, AV.ren, renL_ints]))) ?_
  refine rs rfl rfl ((ok_conv_int rfl ti_uint32 ti_int rfl rfl).eq (x' := .int (crcV P)) (by rw [wrap_crc]) rfl) ?_
  refine ro rfl rfl (ok_call rfl rfl rfl ((rint_frz (crcV P)).plain rfl (by simp [AV.ren, renL_ints]))) ?_
  refine rs rfl rfl ((ok_append_ints (k := .u8) (xs := enc P.length 8) (ys := enc (crcV P) 8) rfl ti_Luint8 rfl ti_uint8 rfl (by decide) rfl ti_Luint8 (by simp) rfl rfl rfl rfl rfl rfl rfl rfl rfl (by simp)).eq (x' := .sl 4 0 (headR P).length) (H'' := [some (RcB x), none, some ⟨1, true, ints .u8 P⟩, none, some ⟨1, true, ints .u8 (headR P)⟩]) rfl rfl) ?_
  refine rs rfl rfl (ok_move (.inr rfl)) ?_
  refine ro_nil ?_
  refine keepK hK12 [1, 5, 8] (by dsimp) (by dsimp) ?_
  refine T.seq fun K13 hK13 => ?_
  refine T.region ?_
  refine rs rfl rfl (ok_move (.inl rfl)) ?_
  refine rs rfl rfl (ok_move (.inl rfl)) ?_
  refine rs rfl rfl (by exact ok_append_ints (k := .u8) (xs := headR P) (ys := P) rfl ti_Luint8 rfl ti_uint8 rfl (by decide) rfl ti_Luint8 (by simp) (rowA_sl rfl rfl (by simp)) rfl rfl rfl rfl rfl rfl rfl rfl (by simp [headR_len]; omega)) ?_
  refine rs rfl rfl (ok_move (.inl rfl)) ?_
  refine ro rfl rfl (ok_call rfl rfl rfl ((rpad_new (headR P ++ P) b (by omega) (by simp [headR_len]; omega)).lendI (EntL.cons (Ent.lent 5 1 (ints .u8 (headR P ++ P)) rfl (by simp)) (EntL.refl _)) (by simp [renL, AV.ren, renL_ints]))) ?_
  refine rs rfl rfl (ok_move (.inr rfl)) ?_
  refine ro_nil ?_
  refine keepK hK13 [4] (by dsimp) (by dsimp) ?_
  refine T.ret (hQ _ _ _ rfl ?_).1 -- ret 1
  exact TEnt.fin [6] (by decide) (by simp) (by simp [normH, hget, Blk.ren, renL_ints]) ⟨rfl, trivial⟩
theorem rrput_ok (x : Rc) (b : Int) (hB : Bytes x.body) (hl : x.body.length ≤ 140737488355328) : CSpec Tryz.prog 23 [] [.agg (RcC x), .int b] [] (.fz 1 (ints .u8 (putR x b))) := by
  by_cases h : PR x ∧ 1 ≤ b ∧ b ≤ 4096
  · rw [putR_good h]
    obtain ⟨n, rfl⟩ := Int.eq_ofNat_of_zero_le (show 0 ≤ b by omega)
    exact (rrput_good x n hB h.1 (by omega)).frz' rfl
  · rw [putR_bad h]
    exact (rrput_bad x b hl h).res (Ent.nil 1)
end Go.Proofs.YtjklgbafnfoolaaGreat.AmF
namespace Go.Proofs.YtjklgbafnfoolaaGreat.AmF
open Go Go.AM
set_option maxRecDepth 100000
set_option linter.unusedSimpArgs false
set_option linter.unusedVariables false
attribute [local simp] tkeep tget tput ev cav argsTM pickA normT putA splice AV.cells ints_length rowsA_length enc_len
def zeroB (l : List Int) : Bool := l.all (· == 0)
def firstNZ : List Int → Nat → Option Nat
  | [], _ => none
  | c :: l, i => if c ≠ 0 then some i else firstNZ l (i + 1)
def nzI (l : List Int) (i : Nat) : Int := match firstNZ l i with
  | some k => k
  | none => -1
theorem nzI_zero : ∀ (l : List Int) (i : Nat), (decide (nzI l i ≥ 0)) = !zeroB l
  | [], i => by simp [nzI, firstNZ, zeroB]
  | c :: l, i => by
    have ih := nzI_zero l (i + 1)
    by_cases h : c ≠ 0
    · have : (c == 0) = false := by simpa using h
      simp [nzI, firstNZ, zeroB, h]
    · have h0 : c = 0 := by omega
      subst h0
      have e : nzI (0 :: l) i = nzI l (i + 1) := by simp [nzI, firstNZ]
      rw [e, ih]
      simp [zeroB]
theorem nzI_step {l : List Int} {i : Nat} {c : Int} (h : l[i]? = some c) (hc : c = 0) : nzI (l.drop i) i = nzI (l.drop (i + 1)) (i + 1) := by
  have hi := (List.getElem?_eq_some_iff.1 h).1
  have hcc : l[i] = c := (List.getElem?_eq_some_iff.1 h).2
  rw [List.drop_eq_getElem_cons hi, hcc, hc]
  simp [nzI, firstNZ]
theorem nzI_hit {l : List Int} {i : Nat} {c : Int} (h : l[i]? = some c) (hc : c ≠ 0) : nzI (l.drop i) i = i := by
  have hi := (List.getElem?_eq_some_iff.1 h).1
  have hcc : l[i] = c := (List.getElem?_eq_some_iff.1 h).2
  rw [List.drop_eq_getElem_cons hi, hcc]
  simp [nzI, firstNZ, hc]
theorem zero1_ok (c : Int) : CSpec Tryz.prog 98 [] [.v (.int .u8 c)] [] (.b (c != 0)) := by
 refine CSpec.body Tryz.func98 rfl rfl rfl rfl rfl fun Q hQ => ?_
 refine T.seq fun K1 hK1 => ?_
 refine T.region ?_
 refine rs rfl rfl (ok_moveb (c := false) (.inr rfl) rfl) ?_
 refine ro_nil ?_
 refine keepK hK1 [0] (by dsimp) (by dsimp) ?_
 refine T.seq fun K2 hK2 => ?_
 refine T.region ?_
 refine rs rfl rfl (ok_move (.inl rfl)) ?_
 refine rs rfl rfl (ok_binOp rfl ti_uint8 rfl) ?_
 refine rs rfl rfl (ok_move (.inr rfl)) ?_
 refine ro_nil ?_
 refine keepK hK2 [2] (by dsimp) (by dsimp) ?_
 refine T.ret (hQ _ _ _ rfl ?_).1 -- ret 1
 exact TEnt.fin [] (by decide) (by simp) rfl ⟨rfl, trivial⟩
theorem indexfunc_ok (l : List Int) (hl : l.length ≤ 140737488355328) : CSpec Tryz.prog 113 [] [.fz 1 (ints .u8 l), .fn (.func 98) [] []] [] (.int (nzI l 0)) := by
 refine CSpec.body Tryz.func113 rfl rfl rfl rfl rfl fun Q hQ => ?_
 refine T.seq fun K1 hK1 => ?_
 refine T.region ?_
 refine rs rfl rfl (ok_move (.inr rfl)) ?_
 refine ro_nil ?_
 refine keepK hK1 [0, 1] (by dsimp) (by dsimp) ?_
 refine T.seq fun K2 hK2 => ?_
 refine T.seq fun K3 hK3 => ?_
 refine T.region ?_
 refine rs rfl rfl (ok_move (.inl rfl)) ?_
 refine rs rfl rfl (ok_len' rfl rfl ti_Luint8 rfl (by first | exact ints_length _ _ | exact rowsA_length _ _ | exact Cms_len _ | exact mapLen _ | rfl)) ?_
 refine rs rfl rfl (ok_move (.inl rfl)) ?_
 refine ro_nil ?_
 refine keepK hK3 [0, 1, 7, 8] (by dsimp) (by dsimp) ?_
 refine T.block ?_
 refine T.loopI (ι := Nat) (fun i => i ≤ l.length ∧ nzI l 0 = nzI (l.drop i) i) (fun i => l.length - i) (fun i => ([(0, .fz 1 (ints .u8 l)), (1, .fn (.func 98) [] []), (7, .int l.length), (8, .int i)], [])) 0 ⟨Nat.zero_le _, rfl⟩ (TEnt.toH rfl ⟨rfl, rfl, rfl, rfl, trivial⟩) (fun i hi => ?_) -- loop 1
 obtain ⟨hi, hnz⟩ := hi
 refine T.seq fun K4 hK4 => ?_
 refine T.region ?_
 refine rs rfl rfl (ok_binOp rfl ti_int rfl) ?_
 refine ro_nil ?_
 refine keepK hK4 [0, 1, 7, 8, 9] (by dsimp) (by dsimp) ?_
 refine T.seq fun K5 hK5 => ?_
 refine T.cond rfl (fun hc => ?_) (fun hc => ?_) -- cond 1
 ·(try simp only [dE] at hc)
  obtain ⟨c, hc0⟩ : ∃ c, l[i]? = some c := ⟨_, List.getElem?_eq_getElem (by omega)⟩
  refine T.skip ?_
  refine keepK hK5 [0, 1, 7, 8] (by dsimp) (by dsimp) ?_
  refine T.seq fun K6 hK6 => ?_
  refine T.block ?_
  refine T.seq fun K7 hK7 => ?_
  refine T.region ?_
  refine rs rfl rfl (ok_move (.inl rfl)) ?_
  refine rs rfl rfl (ok_move (.inr rfl)) ?_
  refine ro_nil ?_
  refine keepK hK7 [0, 1, 5, 7, 8] (by dsimp) (by dsimp) ?_
  refine T.seq fun K8 hK8 => ?_
  refine T.region ?_
  refine rs rfl rfl (ok_move (.inl rfl)) ?_
  refine rs rfl rfl (ok_move (.inl rfl)) ?_
  refine rs rfl rfl (ok_move (.inl rfl)) ?_
  refine rs rfl rfl (by exact ok_index_ints rfl ti_Luint8 rfl ti_uint8 rfl rfl rfl (by omega) (by simpa using hc0)) ?_
  refine rs rfl rfl (ok_load rfl ti_uint8 rfl rfl) ?_
  refine ro rfl rfl (ok_call rfl rfl rfl ((zero1_ok c).plain rfl rfl)) ?_
  refine ro_nil ?_
  refine keepK hK8 [0, 1, 5, 7, 8, 16] (by dsimp) (by dsimp) ?_
  refine T.cond rfl (fun hc => ?_) (fun hc => ?_) -- cond 2
  ·(try simp only [dE] at hc)
   rw [hnz, nzI_hit hc0 hc] at hQ
   refine T.seq fun K9 hK9 => ?_
   refine T.region ?_
   refine rs rfl rfl (ok_move (.inl rfl)) ?_
   refine rs rfl rfl (ok_move (.inr rfl)) ?_
   refine ro_nil ?_
   refine keepK hK9 [4] (by dsimp) (by dsimp) ?_
   refine T.ret (hQ _ _ _ rfl ?_).1 -- ret 1
   exact TEnt.fin [] (by decide) (by simp) rfl ⟨rfl, trivial⟩
  ·(try simp only [dE] at hc)
   refine T.skip ?_
   refine keepK hK6 [0, 1, 7, 8] (by dsimp) (by dsimp) ?_
   refine T.region ?_
   refine rs rfl rfl (ok_add64 rfl ti_int rfl rfl (by omega) (by omega)) ?_
   refine rs rfl rfl (ok_move (.inl rfl)) ?_
   refine ro_nil ?_
   exact ⟨i + 1, ⟨by omega, by rw [hnz, nzI_step hc0 (by simpa using hc)]⟩, by omega, TEnt.toH rfl ⟨rfl, rfl, rfl, rfl, trivial⟩⟩
 ·(try simp only [dE] at hc)
  have hil : i = l.length := by omega
  subst hil
  have h1 : nzI l 0 = -1 := by rw [hnz, List.drop_length]; rfl
  rw [h1] at hQ
  refine T.exit ?_
  refine keepK hK2 [] (by dsimp) (by dsimp) ?_
  refine T.seq fun K10 hK10 => ?_
  refine T.region ?_
  refine rs rfl rfl (ok_move (.inr rfl)) ?_
  refine ro_nil ?_
  refine keepK hK10 [4] (by dsimp) (by dsimp) ?_
  refine T.ret (hQ _ _ _ rfl ?_).1 -- ret 2
  exact TEnt.fin [] (by decide) (by simp) rfl ⟨rfl, trivial⟩
theorem containsfunc_ok (l : List Int) (hl : l.length ≤ 140737488355328) : CSpec Tryz.prog 97 [] [.fz 1 (ints .u8 l), .fn (.func 98) [] []] [] (.b (!zeroB l)) := by
 refine CSpec.body Tryz.func97 rfl rfl rfl rfl rfl fun Q hQ => ?_
 refine T.seq fun K1 hK1 => ?_
 refine T.region ?_
 refine rs rfl rfl (ok_moveb (c := false) (.inr rfl) rfl) ?_
 refine ro_nil ?_
 refine keepK hK1 [0, 1] (by dsimp) (by dsimp) ?_
 refine T.seq fun K2 hK2 => ?_
 refine T.region ?_
 refine rs rfl rfl (ok_move (.inl rfl)) ?_
 refine rs rfl rfl (ok_move (.inl rfl)) ?_
 refine ro rfl rfl (ok_call rfl rfl rfl ((indexfunc_ok l hl).plain (by simp [renL, AV.ren, renL_ints]) rfl)) ?_
 refine rs rfl rfl ((ok_binOp rfl ti_int rfl).eq (x' := .b (!zeroB l)) (congrArg AV.b (nzI_zero l 0)) rfl) ?_
 refine rs rfl rfl (ok_move (.inr rfl)) ?_
 refine ro_nil ?_
 refine keepK hK2 [4] (by dsimp) (by dsimp) ?_
 refine T.ret (hQ _ _ _ rfl ?_).1 -- ret 1
 exact TEnt.fin [] (by decide) (by simp) rfl ⟨rfl, trivial⟩
theorem zero_ok (l : List Int) (hl : l.length ≤ 140737488355328) : CSpec Tryz.prog 65 [] [.fz 1 (ints .u8 l)] [] (.b (zeroB l)) := by
 refine CSpec.body Tryz.func65 rfl rfl rfl rfl rfl fun Q hQ => ?_
 refine T.seq fun K1 hK1 => ?_
 refine T.region ?_
 refine rs rfl rfl (ok_moveb (c := false) (.inr rfl) rfl) ?_
 refine ro_nil ?_
 refine keepK hK1 [0] (by dsimp) (by dsimp) ?_
 refine T.seq fun K2 hK2 => ?_
 refine T.region ?_
 refine rs rfl rfl (ok_move (.inl rfl)) ?_
 refine ro rfl rfl (ok_call rfl rfl rfl ((containsfunc_ok l hl).plain (by simp [renL, AV.ren, renL_ints]) rfl)) ?_
 refine rs rfl rfl ((ok_unOp rfl rfl).eq (x' := .b (zeroB l)) (congrArg AV.b (by simp)) rfl) ?_
 refine rs rfl rfl (ok_move (.inr rfl)) ?_
 refine ro_nil ?_
 refine keepK hK2 [2] (by dsimp) (by dsimp) ?_
 refine T.ret (hQ _ _ _ rfl ?_).1 -- ret 1
 exact TEnt.fin [] (by decide) (by simp) rfl ⟨rfl, trivial⟩
/-- Numbers read one behind the other, each between bounds of its own. -/
def rdF (l : List Int) (lo hi : Nat → Int) : Nat → Nat × Int
  | 0 => (0, 0)
  | n + 1 => ((ri l (rdF l lo hi n).1 (rdF l lo hi n).2 (lo n) (hi n)).1, (ri l (rdF l lo hi n).1 (rdF l lo hi n).2 (lo n) (hi n)).2.1)
def rdFV (l : List Int) (lo hi : Nat → Int) (n : Nat) : Int := (ri l (rdF l lo hi n).1 (rdF l lo hi n).2 (lo n) (hi n)).2.2
theorem rdF_le (l : List Int) (lo hi : Nat → Int) : ∀ n, (rdF l lo hi n).1 ≤ l.length
  | 0 => Nat.zero_le _
  | n + 1 => ri_le (rdF_le l lo hi n)
def rLo (i : Nat) : Int := if i = 5 then -1 else 0
def rHi (i : Nat) : Int := if i = 0 then 6 else 1099511627776
/-- The row of bytes behind the nine numbers. -/
def rBody (l : List Int) : Nat × Int × List Int := rb l (rdF l rLo rHi 9).1 (rdF l rLo rHi 9).2 1048576
def xr (l : List Int) : Rc := ⟨rdFV l rLo rHi 0, rdFV l rLo rHi 1, rdFV l rLo rHi 2, rdFV l rLo rHi 3, rdFV l rLo rHi 4, rdFV l rLo rHi 5, rdFV l rLo rHi 6, rdFV l rLo rHi 7, rdFV l rLo rHi 8, (rBody l).2.2⟩
def parOk (l : List Int) : Prop := (rBody l).2.1 = 0 ∧ (rBody l).1 = l.length
instance (l : List Int) : Decidable (parOk l) := by unfold parOk; infer_instance
/-- A cell that holds the pointer to a reader. -/
def PB (k : Nat) : Blk := ⟨1, true, [.ref k 0 0]⟩
/-- A call that is handed a reader, and a cell that points to it. -/
theorem _root_.Go.AM.CSpec.passRP {H : Heap} {f : FuncId} {l l' : List Int} {p p' : Nat} {e e' : Int} {args args' : List AV} {x : AV} (h : CSpec Tryz.prog f [R l p e, PB 0] args' [some (R l' p' e'), some (PB 0)] x) (hg : hget H 1 = some (R l p e)) (hg2 : hget H 2 = some (PB 1)) (ha : renL (pos [1, 2]) args = args') (hx : ∀ ρ, x.ren ρ = x) :
    CallOk Tryz.prog f H args x ((H.set 1 (some (R l' p' e'))).set 2 (some (PB 1))) := by
  have hid := hget_lt hg
  have hid2 := hget_lt hg2
  have := h.pass (H := H) (args := args) [1, 2] (by decide) (by simp; omega) (by simp [normH, hg, hg2, R_ren]; rfl) ha
  exact this.eq (hx _) (by simp [mergeH, setIds, renH, R_ren]; rfl)
theorem num_ok (l : List Int) (p : Nat) (e : Int) (hB : Bytes l) (hp : p ≤ l.length) (hl : l.length ≤ 140737488355328) : CSpec Tryz.prog 94 [R l p e, PB 0] [.ref 1 0 0] [some (R l (ri l p e 0 1099511627776).1 (ri l p e 0 1099511627776).2.1), some (PB 0)] (.int (ri l p e 0 1099511627776).2.2) := by
 refine CSpec.body Tryz.func94 rfl rfl rfl rfl rfl fun Q hQ => ?_
 refine T.seq fun K1 hK1 => ?_
 refine T.region ?_
 refine rs rfl rfl (ok_move (.inr rfl)) ?_
 refine ro_nil ?_
 refine keepK hK1 [0] (by dsimp) (by dsimp) ?_
 refine T.seq fun K2 hK2 => ?_
 refine T.region ?_
 refine rs rfl rfl (ok_load rfl ti_Ppack_Reader rfl rfl) ?_
 refine ro rfl rfl (ok_call rfl rfl rfl ((int_ok l p e 0 1099511627776 hB hp hl).passR 0 rfl rfl (fun _ => rfl))) ?_
 refine rs rfl rfl (ok_move (.inr rfl)) ?_
 refine ro_nil ?_
 refine keepK hK2 [1] (by dsimp) (by dsimp) ?_
 refine T.ret (hQ _ _ _ rfl ?_).1 -- ret 1
 exact TEnt.toH rfl ⟨rfl, trivial⟩
def ZB : Blk := ⟨10, true, [.agg [.int 0, .int 0, .int 0, .int 0, .int 0, .int 0, .int 0, .int 0, .int 0, .v (.slice none 0 0)]]⟩
set_option maxHeartbeats 1000000 in
theorem parse_ok (l : List Int) (hB : Bytes l) (hl : l.length ≤ 140737488355328) : CSpec Tryz.prog 64 [] [.fz 1 (ints .u8 l)] [] (.tup [.agg (RcC (xr l)), .b (decide (parOk l))]) := by
 have hp := rdF_le l rLo rHi
 have hb9 := rb_le (l := l) (e := (rdF l rLo rHi 9).2) (m := 1048576) (hp 9)
 refine CSpec.body Tryz.func64 rfl rfl rfl rfl rfl fun Q hQ => ?_
 refine T.seq fun K1 hK1 => ?_
 refine T.region ?_
 refine rs rfl rfl (ok_alloc rfl ti_api_Rec rfl (by decide)) ?_
 refine rs rfl rfl (ok_moveb (c := false) (.inr rfl) rfl) ?_
 refine ro_nil ?_
 refine keepK hK1 [0, 2] (by dsimp) (by dsimp) ?_
 refine T.seq fun K2 hK2 => ?_
 refine T.region ?_
 refine rs rfl rfl (ok_move (.inl rfl)) ?_
 refine ro rfl rfl (ok_call rfl rfl rfl ((new_ok l hl).fresh (x' := .ref 1 0 0) (H' := [some (R l 0 0)]) (by simp [renL, AV.ren, renL_ints]) rfl (by simp [renH, R_ren]))) ?_
 refine rs rfl rfl (ok_alloc rfl ti_Ppack_Reader rfl (by decide)) ?_
 refine rs rfl rfl (ok_store rfl ti_Ppack_Reader (by decide) rfl rfl rfl rfl rfl (by first | exact Nat.le_of_ble_eq_true rfl | simp) (by first | exact .inl ⟨rfl, rfl⟩ | exact .inr rfl)) ?_
 refine ro_nil ?_
 refine keepK hK2 [2, 4] (by dsimp) (by dsimp) ?_
 refine T.seq fun K3 hK3 => ?_
 refine T.region ?_
 refine rs rfl rfl (ok_makeFunc rfl) ?_
 refine rs rfl rfl (ok_move (.inr rfl)) ?_
 refine ro_nil ?_
 refine keepK hK3 [2, 4, 5] (by dsimp) (by dsimp) ?_
 refine T.seq fun K4 hK4 => ?_
 refine T.region ?_
 refine rs rfl rfl (ok_load rfl ti_Ppack_Reader rfl rfl) ?_
 refine ro rfl rfl (ok_call rfl rfl rfl (((int_ok l (rdF l rLo rHi 0).1 (rdF l rLo rHi 0).2 0 6 hB (hp 0) hl).passR 1 rfl rfl (fun _ => rfl)).eq (x' := .int (rdFV l rLo rHi 0)) (H'' := [some ZB, some (R l (rdF l rLo rHi 1).1 (rdF l rLo rHi 1).2), some (PB 1)]) rfl rfl)) ?_
 refine rs rfl rfl (ok_build rfl ti_api_Rec rfl) ?_
 refine rs rfl rfl (ok_alloc rfl ti_api_Rec rfl (by decide)) ?_
 refine rs rfl rfl (ok_store rfl ti_api_Rec (by decide) rfl rfl rfl rfl rfl (by first | exact Nat.le_of_ble_eq_true rfl | simp) (by first | exact .inl ⟨rfl, rfl⟩ | exact .inr rfl)) ?_
 refine ro_nil ?_
 refine keepK hK4 [2, 4, 5, 6] (by dsimp) (by dsimp) ?_
 refine T.seq fun K5 hK5 => ?_
 refine T.region ?_
 refine rs rfl rfl (ok_move (.inl rfl)) ?_
 refine ro rfl rfl (ok_call rfl rfl rfl (((num_ok l (rdF l rLo rHi 1).1 (rdF l rLo rHi 1).2 hB (hp 1) hl).passRP rfl rfl rfl (fun _ => rfl)).eq (x' := .int (rdFV l rLo rHi 1)) (H'' := [some ZB, some (R l (rdF l rLo rHi 2).1 (rdF l rLo rHi 2).2), some (PB 1), some ⟨10, true, [.agg [.int (rdFV l rLo rHi 0), .int 0, .int 0, .int 0, .int 0, .int 0, .int 0, .int 0, .int 0, .v (.slice none 0 0)]]⟩]) rfl rfl)) ?_
 refine rs rfl rfl (ok_move (.inl rfl)) ?_
 refine ro rfl rfl (ok_call rfl rfl rfl (((num_ok l (rdF l rLo rHi 2).1 (rdF l rLo rHi 2).2 hB (hp 2) hl).passRP rfl rfl rfl (fun _ => rfl)).eq (x' := .int (rdFV l rLo rHi 2)) (H'' := [some ZB, some (R l (rdF l rLo rHi 3).1 (rdF l rLo rHi 3).2), some (PB 1), some ⟨10, true, [.agg [.int (rdFV l rLo rHi 0), .int 0, .int 0, .int 0, .int 0, .int 0, .int 0, .int 0, .int 0, .v (.slice none 0 0)]]⟩]) rfl rfl)) ?_
 refine rs rfl rfl (ok_move (.inl rfl)) ?_
 refine ro rfl rfl (ok_call rfl rfl rfl (((num_ok l (rdF l rLo rHi 3).1 (rdF l rLo rHi 3).2 hB (hp 3) hl).passRP rfl rfl rfl (fun _ => rfl)).eq (x' := .int (rdFV l rLo rHi 3)) (H'' := [some ZB, some (R l (rdF l rLo rHi 4).1 (rdF l rLo rHi 4).2), some (PB 1), some ⟨10, true, [.agg [.int (rdFV l rLo rHi 0), .int 0, .int 0, .int 0, .int 0, .int 0, .int 0, .int 0, .int 0, .v (.slice none 0 0)]]⟩]) rfl rfl)) ?_
 refine rs rfl rfl (ok_move (.inl rfl)) ?_
 refine ro rfl rfl (ok_call rfl rfl rfl (((num_ok l (rdF l rLo rHi 4).1 (rdF l rLo rHi 4).2 hB (hp 4) hl).passRP rfl rfl rfl (fun _ => rfl)).eq (x' := .int (rdFV l rLo rHi 4)) (H'' := [some ZB, some (R l (rdF l rLo rHi 5).1 (rdF l rLo rHi 5).2), some (PB 1), some ⟨10, true, [.agg [.int (rdFV l rLo rHi 0), .int 0, .int 0, .int 0, .int 0, .int 0, .int 0, .int 0, .int 0, .v (.slice none 0 0)]]⟩]) rfl rfl)) ?_
 refine rs rfl rfl (ok_fieldAddr rfl ti_api_Rec rfl rfl ti_int (by decide) rfl) ?_
 refine rs rfl rfl (ok_store rfl ti_int (by decide) rfl rfl rfl rfl rfl (by first | exact Nat.le_of_ble_eq_true rfl | simp) (by first | exact .inl ⟨rfl, rfl⟩ | exact .inr rfl)) ?_
 refine rs rfl rfl (ok_fieldAddr rfl ti_api_Rec rfl rfl ti_int (by decide) rfl) ?_
 refine rs rfl rfl (ok_store rfl ti_int (by decide) rfl rfl rfl rfl rfl (by first | exact Nat.le_of_ble_eq_true rfl | simp) (by first | exact .inl ⟨rfl, rfl⟩ | exact .inr rfl)) ?_
 refine rs rfl rfl (ok_fieldAddr rfl ti_api_Rec rfl rfl ti_int (by decide) rfl) ?_
 refine rs rfl rfl (ok_store rfl ti_int (by decide) rfl rfl rfl rfl rfl (by first | exact Nat.le_of_ble_eq_true rfl | simp) (by first | exact .inl ⟨rfl, rfl⟩ | exact .inr rfl)) ?_
 refine rs rfl rfl (ok_fieldAddr rfl ti_api_Rec rfl rfl ti_int (by decide) rfl) ?_
 refine rs rfl rfl (ok_store rfl ti_int (by decide) rfl rfl rfl rfl rfl (by first | exact Nat.le_of_ble_eq_true rfl | simp) (by first | exact .inl ⟨rfl, rfl⟩ | exact .inr rfl)) ?_
 refine ro_nil ?_
 refine keepK hK5 [2, 4, 5, 6] (by dsimp) (by dsimp) ?_
 refine T.seq fun K6 hK6 => ?_
 refine T.region ?_
 refine rs rfl rfl (ok_load rfl ti_Ppack_Reader rfl rfl) ?_
 refine ro rfl rfl (ok_call rfl rfl rfl (((int_ok l (rdF l rLo rHi 5).1 (rdF l rLo rHi 5).2 (-1) 1099511627776 hB (hp 5) hl).passR 1 rfl rfl (fun _ => rfl)).eq (x' := .int (rdFV l rLo rHi 5)) (H'' := [some ZB, some (R l (rdF l rLo rHi 6).1 (rdF l rLo rHi 6).2), some (PB 1), some ⟨10, true, [.agg [.int (rdFV l rLo rHi 0), .int (rdFV l rLo rHi 1), .int (rdFV l rLo rHi 2), .int (rdFV l rLo rHi 3), .int (rdFV l rLo rHi 4), .int 0, .int 0, .int 0, .int 0, .v (.slice none 0 0)]]⟩]) rfl rfl)) ?_
 refine rs rfl rfl (ok_fieldAddr rfl ti_api_Rec rfl rfl ti_int (by decide) rfl) ?_
 refine rs rfl rfl (ok_store rfl ti_int (by decide) rfl rfl rfl rfl rfl (by first | exact Nat.le_of_ble_eq_true rfl | simp) (by first | exact .inl ⟨rfl, rfl⟩ | exact .inr rfl)) ?_
 refine ro_nil ?_
 refine keepK hK6 [2, 4, 5, 6] (by dsimp) (by dsimp) ?_
 refine T.seq fun K7 hK7 => ?_
 refine T.region ?_
 refine rs rfl rfl (ok_move (.inl rfl)) ?_
 refine ro rfl rfl (ok_call rfl rfl rfl (((num_ok l (rdF l rLo rHi 6).1 (rdF l rLo rHi 6).2 hB (hp 6) hl).passRP rfl rfl rfl (fun _ => rfl)).eq (x' := .int (rdFV l rLo rHi 6)) (H'' := [some ZB, some (R l (rdF l rLo rHi 7).1 (rdF l rLo rHi 7).2), some (PB 1), some ⟨10, true, [.agg [.int (rdFV l rLo rHi 0), .int (rdFV l rLo rHi 1), .int (rdFV l rLo rHi 2), .int (rdFV l rLo rHi 3), .int (rdFV l rLo rHi 4), .int (rdFV l rLo rHi 5), .int 0, .int 0, .int 0, .v (.slice none 0 0)]]⟩]) rfl rfl)) ?_
 refine rs rfl rfl (ok_move (.inl rfl)) ?_
 refine ro rfl rfl (ok_call rfl rfl rfl (((num_ok l (rdF l rLo rHi 7).1 (rdF l rLo rHi 7).2 hB (hp 7) hl).passRP rfl rfl rfl (fun _ => rfl)).eq (x' := .int (rdFV l rLo rHi 7)) (H'' := [some ZB, some (R l (rdF l rLo rHi 8).1 (rdF l rLo rHi 8).2), some (PB 1), some ⟨10, true, [.agg [.int (rdFV l rLo rHi 0), .int (rdFV l rLo rHi 1), .int (rdFV l rLo rHi 2), .int (rdFV l rLo rHi 3), .int (rdFV l rLo rHi 4), .int (rdFV l rLo rHi 5), .int 0, .int 0, .int 0, .v (.slice none 0 0)]]⟩]) rfl rfl)) ?_
 refine rs rfl rfl (ok_move (.inl rfl)) ?_
 refine ro rfl rfl (ok_call rfl rfl rfl (((num_ok l (rdF l rLo rHi 8).1 (rdF l rLo rHi 8).2 hB (hp 8) hl).passRP rfl rfl rfl (fun _ => rfl)).eq (x' := .int (rdFV l rLo rHi 8)) (H'' := [some ZB, some (R l (rdF l rLo rHi 9).1 (rdF l rLo rHi 9).2), some (PB 1), some ⟨10, true, [.agg [.int (rdFV l rLo rHi 0), .int (rdFV l rLo rHi 1), .int (rdFV l rLo rHi 2), .int (rdFV l rLo rHi 3), .int (rdFV l rLo rHi 4), .int (rdFV l rLo rHi 5), .int 0, .int 0, .int 0, .v (.slice none 0 0)]]⟩]) rfl rfl)) ?_
 refine rs rfl rfl (ok_fieldAddr rfl ti_api_Rec rfl rfl ti_int (by decide) rfl) ?_
 refine rs rfl rfl (ok_store rfl ti_int (by decide) rfl rfl rfl rfl rfl (by first | exact Nat.le_of_ble_eq_true rfl | simp) (by first | exact .inl ⟨rfl, rfl⟩ | exact .inr rfl)) ?_
 refine rs rfl rfl (ok_fieldAddr rfl ti_api_Rec rfl rfl ti_int (by decide) rfl) ?_
 refine rs rfl rfl (ok_store rfl ti_int (by decide) rfl rfl rfl rfl rfl (by first | exact Nat.le_of_ble_eq_true rfl | simp) (by first | exact .inl ⟨rfl, rfl⟩ | exact .inr rfl)) ?_
 refine rs rfl rfl (ok_fieldAddr rfl ti_api_Rec rfl rfl ti_int (by decide) rfl) ?_
 refine rs rfl rfl (ok_store rfl ti_int (by decide) rfl rfl rfl rfl rfl (by first | exact Nat.le_of_ble_eq_true rfl | simp) (by first | exact .inl ⟨rfl, rfl⟩ | exact .inr rfl)) ?_
 refine ro_nil ?_
 refine keepK hK7 [2, 4, 6] (by dsimp) (by dsimp) ?_
 refine T.seq fun K8 hK8 => ?_
 refine T.region ?_
 refine rs rfl rfl (ok_load rfl ti_Ppack_Reader rfl rfl) ?_
 refine ro rfl rfl (ok_call rfl rfl rfl (((bytes_ok l (rdF l rLo rHi 9).1 (rdF l rLo rHi 9).2 1048576 hB (hp 9) hl).passR 1 rfl rfl (fun _ => by simp [AV.ren, renL_ints])).eq (x' := .fz 1 (ints .u8 (rBody l).2.2)) (H'' := [some ZB, some (R l (rBody l).1 (rBody l).2.1), some (PB 1), some ⟨10, true, [.agg [.int (rdFV l rLo rHi 0), .int (rdFV l rLo rHi 1), .int (rdFV l rLo rHi 2), .int (rdFV l rLo rHi 3), .int (rdFV l rLo rHi 4), .int (rdFV l rLo rHi 5), .int (rdFV l rLo rHi 6), .int (rdFV l rLo rHi 7), .int (rdFV l rLo rHi 8), .v (.slice none 0 0)]]⟩]) rfl rfl)) ?_
 refine rs rfl rfl (ok_fieldAddr rfl ti_api_Rec rfl rfl ti_Luint8 (by decide) rfl) ?_
 refine rs rfl rfl (ok_store rfl ti_Luint8 (by decide) rfl rfl rfl rfl rfl (by first | exact Nat.le_of_ble_eq_true rfl | simp) (by first | exact .inl ⟨rfl, rfl⟩ | exact .inr rfl)) ?_
 refine ro_nil ?_
 refine keepK hK8 [2, 4, 6] (by dsimp) (by dsimp) ?_
 refine T.seq fun K9 hK9 => ?_
 refine T.draw mixed (SH [] (HeldL ([none, some (R l (rBody l).1 (rBody l).2.1), some (PB 1), some (RcB (xr l))]))) ?_
 refine any_take 0 rfl (by first | rfl | decide +kernel) rfl (by first | (simp [HeldL]; done) | (simp only [dH]; (repeat' first | trivial | rfl | constructor))) (fun H' hH => OpOk.step (ok_load rfl ti_api_Rec (locA_held hH rfl) rfl)) ?_
 refine any_take 1 rfl (by first | rfl | decide +kernel) rfl (by first | (simp [HeldL]; done) | (simp only [dH]; (repeat' first | trivial | rfl | constructor))) (fun H' hH => OpOk.step (ok_load rfl ti_Ppack_Reader (locA_held hH rfl) rfl)) ?_
 refine any_one 2 rfl (by first | rfl | decide +kernel) rfl rfl (ok_call rfl rfl rfl (((err_ok l (rBody l).1 (rBody l).2.1).passR 1 rfl rfl (fun _ => rfl)).eq (x' := .int (rBody l).2.1) (H'' := [some ZB, some (R l (rBody l).1 (rBody l).2.1), some (PB 1), some (RcB (xr l))]) rfl rfl)) (.inr (by first | (simp [HeldL]; done) | (simp only [dH]; (repeat' first | trivial | rfl | constructor)))) ?_
 refine any_take 3 rfl (by first | rfl | decide +kernel) rfl (by first | (simp [HeldL]; done) | (simp only [dH]; (repeat' first | trivial | rfl | constructor))) (fun H' hH => OpOk.step (ok_binOp rfl ti_api_Errno rfl)) ?_
 refine any_take_case 4 rfl (by first | rfl | decide +kernel) rfl (by first | (simp [HeldL]; done) | (simp only [dH]; (repeat' first | trivial | rfl | constructor))) (fun H' hH => OpOk.step (ok_moveb (.inl rfl) rfl)) (fun hb => ?_) (fun hb => ?_)
 ·(try simp only [dE] at hb)
  refine any_take 5 rfl (by first | rfl | decide +kernel) rfl (by first | (simp [HeldL]; done) | (simp only [dH]; (repeat' first | trivial | rfl | constructor))) (fun H' hH => OpOk.step (ok_load rfl ti_Ppack_Reader (locA_held hH rfl) rfl)) ?_
  refine any_one 6 rfl (by first | rfl | decide +kernel) rfl rfl (ok_call rfl rfl rfl (((left_ok l (rBody l).1 (rBody l).2.1 hb9 hl).passR 1 rfl rfl (fun _ => rfl)).eq (x' := .int ((l.length : Int) - (rBody l).1)) (H'' := [some ZB, some (R l (rBody l).1 (rBody l).2.1), some (PB 1), some (RcB (xr l))]) rfl rfl)) (.inr (by first | (simp [HeldL]; done) | (simp only [dH]; (repeat' first | trivial | rfl | constructor)))) ?_
  refine any_take 7 rfl (by first | rfl | decide +kernel) rfl (by first | (simp [HeldL]; done) | (simp only [dH]; (repeat' first | trivial | rfl | constructor))) (fun H' hH => OpOk.step (ok_binOp rfl ti_int rfl)) ?_
  refine any_take 8 rfl (by first | rfl | decide +kernel) rfl (by first | (simp [HeldL]; done) | (simp only [dH]; (repeat' first | trivial | rfl | constructor))) (fun H' hH => OpOk.step (ok_pick rfl rfl)) ?_
  refine any_one 9 rfl (by first | rfl | decide +kernel) rfl rfl (OpOk.step (ok_store rfl ti_api_Rec (by decide) rfl rfl rfl rfl rfl (by first | exact Nat.le_of_ble_eq_true rfl | simp) (by first | exact .inl ⟨rfl, rfl⟩ | exact .inr rfl))) (.inr (by first | (simp [HeldL]; done) | (simp only [dH]; (repeat' first | trivial | rfl | constructor)))) ?_
  refine any_take 10 rfl (by first | rfl | decide +kernel) rfl (by first | (simp [HeldL]; done) | (simp only [dH]; (repeat' first | trivial | rfl | constructor))) (fun H' hH => OpOk.step (ok_move (.inr rfl))) ?_
  refine any_done rfl ?_
  refine keepK hK9 [2, 3] (by dsimp) (by dsimp) ?_
  refine T.ret (hQ _ _ _ rfl ?_).1 -- ret 1
  exact by first | (have e : decide (parOk l) = false := decide_eq_false (by unfold parOk; omega); rw [e]; exact TEnt.fin [] (by decide) (by simp) rfl ⟨by show AV.ren (pos []) (.tup [.agg (RcC (xr l)), .b _]) = _; simp [AV.ren, renL, RcC_ren], trivial⟩) | (have e : decide (parOk l) = (((l.length : Int) - (rBody l).1) == 0) := (show decide (parOk l) = decide (((l.length : Int) - (rBody l).1) = 0) from decide_eq_decide.2 (by unfold parOk; omega)); rw [e]; exact TEnt.fin [] (by decide) (by simp) rfl ⟨by show AV.ren (pos []) (.tup [.agg (RcC (xr l)), .b _]) = _; simp [AV.ren, renL, RcC_ren], trivial⟩)
 ·(try simp only [dE] at hb)
  refine any_skip 5 rfl (by first | rfl | decide +kernel) rfl (by first | (simp [HeldL]; done) | (simp only [dH]; (repeat' first | trivial | rfl | constructor))) ?_
  refine any_one_skip 6 rfl (by first | rfl | decide +kernel) rfl rfl (.inr (by first | (simp [HeldL]; done) | (simp only [dH]; (repeat' first | trivial | rfl | constructor)))) ?_
  refine any_skip 7 rfl (by first | rfl | decide +kernel) rfl (by first | (simp [HeldL]; done) | (simp only [dH]; (repeat' first | trivial | rfl | constructor))) ?_
  refine any_take 8 rfl (by first | rfl | decide +kernel) rfl (by first | (simp [HeldL]; done) | (simp only [dH]; (repeat' first | trivial | rfl | constructor))) (fun H' hH => OpOk.step (ok_pickb (t := false) (d := false) rfl rfl rfl)) ?_
  refine any_one 9 rfl (by first | rfl | decide +kernel) rfl rfl (OpOk.step (ok_store rfl ti_api_Rec (by decide) rfl rfl rfl rfl rfl (by first | exact Nat.le_of_ble_eq_true rfl | simp) (by first | exact .inl ⟨rfl, rfl⟩ | exact .inr rfl))) (.inr (by first | (simp [HeldL]; done) | (simp only [dH]; (repeat' first | trivial | rfl | constructor)))) ?_
  refine any_take 10 rfl (by first | rfl | decide +kernel) rfl (by first | (simp [HeldL]; done) | (simp only [dH]; (repeat' first | trivial | rfl | constructor))) (fun H' hH => OpOk.step (ok_moveb (c := false) (.inr rfl) rfl)) ?_
  refine any_done rfl ?_
  refine keepK hK9 [2, 3] (by dsimp) (by dsimp) ?_
  refine T.ret (hQ _ _ _ rfl ?_).1 -- ret 2
  exact by first | (have e : decide (parOk l) = false := decide_eq_false (by unfold parOk; omega); rw [e]; exact TEnt.fin [] (by decide) (by simp) rfl ⟨by show AV.ren (pos []) (.tup [.agg (RcC (xr l)), .b _]) = _; simp [AV.ren, renL, RcC_ren], trivial⟩) | (have e : decide (parOk l) = (((l.length : Int) - (rBody l).1) == 0) := (show decide (parOk l) = decide (((l.length : Int) - (rBody l).1) = 0) from decide_eq_decide.2 (by unfold parOk; omega)); rw [e]; exact TEnt.fin [] (by decide) (by simp) rfl ⟨by show AV.ren (pos []) (.tup [.agg (RcC (xr l)), .b _]) = _; simp [AV.ren, renL, RcC_ren], trivial⟩)
theorem ri_good {l : List Int} {p : Nat} {e a b : Int} (h : (ri l p e a b).2.1 = 0) : e = 0 ∧ a ≤ (ri l p e a b).2.2 ∧ (ri l p e a b).2.2 ≤ b := by
  unfold ri at h ⊢
  split at h
  · rename_i h1; exact absurd h h1
  · rename_i h1
    rw [if_neg h1]
    split at h
    · cases h
    · rename_i h2
      rw [if_neg h2]
      split at h
      · cases h
      · rename_i h3
        rw [if_neg h3]
        dsimp only
        omega
def gQ0 (l : List Int) : Nat × Int × Int := ri (l.take 16) 0 0 0 1048656
def gQ1 (l : List Int) : Nat × Int × Int := ri (l.take 16) (gQ0 l).1 (gQ0 l).2.1 (-9223372036854775808) 9223372036854775807
def gN (l : List Int) : Int := (gQ0 l).2.2
def gM (l : List Int) (k : Int) : Int := (16 + gN l + k - 1) / k
def gP (l : List Int) : List Int := (l.take (16 + gN l).toNat).drop 16
def gT (l : List Int) (k : Int) : List Int := (l.take (gM l k * k).toNat).drop (16 + gN l).toNat
/-- The record that bytes begin with, how many blocks it has, the error. -/
def getR (l : List Int) (k : Int) : Rc × Int × Int :=
  if ¬ (1 ≤ k ∧ k ≤ 4096) then (rc0, 0, 1) else if l.length < 16 then (rc0, 0, 14) else if (gQ1 l).2.1 ≠ 0 then (rc0, 0, 13) else if gM l k * k > l.length then (rc0, 0, 14) else if (gQ1 l).2.2 ≠ crcV (gP l) then (rc0, 0, 15) else if ¬ (parOk (gP l) ∧ zeroB (gT l k) = true) then (rc0, 0, 13) else (xr (gP l), gM l k, 0)
section
variable {l : List Int} {k : Int}
theorem getR_1 (h : ¬ (1 ≤ k ∧ k ≤ 4096)) : getR l k = (rc0, 0, 1) := if_pos h
theorem getR_2 (h : 1 ≤ k ∧ k ≤ 4096) (h2 : l.length < 16) : getR l k = (rc0, 0, 14) := by unfold getR; rw [if_neg (by omega), if_pos h2]
theorem getR_3 (h : 1 ≤ k ∧ k ≤ 4096) (h2 : ¬ l.length < 16) (h3 : (gQ1 l).2.1 ≠ 0) : getR l k = (rc0, 0, 13) := by unfold getR; rw [if_neg (by omega), if_neg h2, if_pos h3]
theorem getR_4 (h : 1 ≤ k ∧ k ≤ 4096) (h2 : ¬ l.length < 16) (h3 : ¬ (gQ1 l).2.1 ≠ 0) (h4 : gM l k * k > l.length) : getR l k = (rc0, 0, 14) := by unfold getR; rw [if_neg (by omega), if_neg h2, if_neg h3, if_pos h4]
theorem getR_5 (h : 1 ≤ k ∧ k ≤ 4096) (h2 : ¬ l.length < 16) (h3 : ¬ (gQ1 l).2.1 ≠ 0) (h4 : ¬ gM l k * k > l.length) (h5 : (gQ1 l).2.2 ≠ crcV (gP l)) : getR l k = (rc0, 0, 15) := by unfold getR; rw [if_neg (by omega), if_neg h2, if_neg h3, if_neg h4, if_pos h5]
theorem getR_6 (h : 1 ≤ k ∧ k ≤ 4096) (h2 : ¬ l.length < 16) (h3 : ¬ (gQ1 l).2.1 ≠ 0) (h4 : ¬ gM l k * k > l.length) (h5 : ¬ (gQ1 l).2.2 ≠ crcV (gP l)) (h6 : ¬ (parOk (gP l) ∧ zeroB (gT l k) = true)) : getR l k = (rc0, 0, 13) := by unfold getR; rw [if_neg (by omega), if_neg h2, if_neg h3, if_neg h4, if_neg h5, if_pos h6]
theorem getR_7 (h : 1 ≤ k ∧ k ≤ 4096) (h2 : ¬ l.length < 16) (h3 : ¬ (gQ1 l).2.1 ≠ 0) (h4 : ¬ gM l k * k > l.length) (h5 : ¬ (gQ1 l).2.2 ≠ crcV (gP l)) (h6 : parOk (gP l) ∧ zeroB (gT l k) = true) : getR l k = (xr (gP l), gM l k, 0) := by unfold getR; rw [if_neg (by omega), if_neg h2, if_neg h3, if_neg h4, if_neg h5, if_neg (by simpa using h6)]
theorem gN_bd : 0 ≤ gN l ∧ gN l ≤ 1048656 := by
  unfold gN
  by_cases h : (gQ0 l).2.1 = 0
  · exact (ri_good h).2
  · have : (gQ0 l).2.2 = 0 := by
      unfold gQ0 ri at h ⊢
      split
      · rfl
      · split
        · rfl
        · split
          · rfl
          · rename_i h1 h2 h3
            rw [if_neg h1, if_neg h2, if_neg h3] at h
            exact absurd rfl h
    omega
theorem gM_bd (h : 1 ≤ k ∧ k ≤ 4096) : 0 ≤ gM l k ∧ gM l k ≤ 1052767 ∧ 16 + gN l ≤ gM l k * k ∧ gM l k * k ≤ 16 + gN l + k - 1 := by
  have hn := gN_bd (l := l)
  have h1 := Int.emod_add_mul_ediv (16 + gN l + k - 1) k
  have h2 := Int.emod_nonneg (16 + gN l + k - 1) (show k ≠ 0 by omega)
  have h3 := Int.emod_lt_of_pos (16 + gN l + k - 1) (show 0 < k by omega)
  have h4 := quo_bd (a := 16 + gN l + k - 1) (b := k) (B := 1052767) (by omega) (by omega) (by omega)
  unfold gM
  rw [Int.mul_comm k] at h1
  omega
end
set_option maxHeartbeats 1000000 in
theorem get_ok (l : List Int) (k : Int) (hB : Bytes l) (hl : l.length ≤ 140737488355328) : CSpec Tryz.prog 28 [] [.fz 1 (ints .u8 l), .int k] [] (.tup [.agg (RcC (getR l k).1), .int (getR l k).2.1, .int (getR l k).2.2]) := by
 refine CSpec.body Tryz.func28 rfl rfl rfl rfl rfl fun Q hQ => ?_
 refine T.seq fun K1 hK1 => ?_
 refine T.region ?_
 refine rs rfl rfl (ok_alloc rfl ti_api_Rec rfl (by decide)) ?_
 refine rs rfl rfl (ok_move (.inr rfl)) ?_
 refine rs rfl rfl (ok_move (.inr rfl)) ?_
 refine ro_nil ?_
 refine keepK hK1 [0, 1, 4] (by dsimp) (by dsimp) ?_
 refine T.seq fun K2 hK2 => ?_
 refine T.block ?_
 refine T.seq fun K3 hK3 => ?_
 refine T.region ?_
 refine rs rfl rfl (ok_move (.inl rfl)) ?_
 refine ro rfl rfl (ok_call rfl rfl rfl ((fits_ok k).plain rfl rfl)) ?_
 refine rs rfl rfl (ok_unOp rfl rfl) ?_
 refine rs rfl rfl (ok_move (.inr rfl)) ?_
 refine ro_nil ?_
 refine keepK hK3 [0, 1, 4, 13] (by dsimp) (by dsimp) ?_
 refine T.cond rfl (fun hc => ?_) (fun hc => ?_) -- cond 1
 ·(try simp only [dE] at hc)
  refine T.seq fun K4 hK4 => ?_
  refine T.region ?_
  refine rs rfl rfl (ok_build rfl ti_api_Rec rfl) ?_
  refine rs rfl rfl (ok_store rfl ti_api_Rec (by decide) rfl rfl rfl rfl rfl (by first | exact Nat.le_of_ble_eq_true rfl | simp) (by first | exact .inl ⟨rfl, rfl⟩ | exact .inr rfl)) ?_
  refine rs rfl rfl (ok_move (.inr rfl)) ?_
  refine rs rfl rfl (ok_move (.inr rfl)) ?_
  refine ro_nil ?_
  refine keepK hK4 [4, 5, 6] (by dsimp) (by dsimp) ?_
  refine T.ret (hQ _ _ _ rfl ?_).1 -- ret 1
  exact by first | (rw [getR_1 (by assumption)]; exact ((TEnt.put1 0 (x' := .tup [.agg (RcC rc0), .int 0, .int 1]) (by show Ent _ (.tup [.agg [.int 0, .int 0, .int 0, .int 0, .int 0, .int 0, .int 0, .int 0, .int 0, .v (.slice none 0 0)], .int 0, .int _]) _; exact Ent.tup (EntL.cons rc0_view (EntL.refl _)))).trans (TEnt.fin [] (by decide) (by simp) rfl ⟨by simp [AV.ren, renL, RcC_ren], trivial⟩))) | (rw [getR_2 (by assumption) (by omega)]; exact ((TEnt.put1 0 (x' := .tup [.agg (RcC rc0), .int 0, .int 14]) (by show Ent _ (.tup [.agg [.int 0, .int 0, .int 0, .int 0, .int 0, .int 0, .int 0, .int 0, .int 0, .v (.slice none 0 0)], .int 0, .int _]) _; exact Ent.tup (EntL.cons rc0_view (EntL.refl _)))).trans (TEnt.fin [] (by decide) (by simp) rfl ⟨by simp [AV.ren, renL, RcC_ren], trivial⟩))) | (rw [getR_3 (by assumption) (by assumption) (by assumption)]; exact ((TEnt.put1 0 (x' := .tup [.agg (RcC rc0), .int 0, .int 13]) (by show Ent _ (.tup [.agg [.int 0, .int 0, .int 0, .int 0, .int 0, .int 0, .int 0, .int 0, .int 0, .v (.slice none 0 0)], .int 0, .int _]) _; exact Ent.tup (EntL.cons rc0_view (EntL.refl _)))).trans (TEnt.fin [] (by decide) (by simp) rfl ⟨by simp [AV.ren, renL, RcC_ren], trivial⟩))) | (rw [getR_4 (by assumption) (by assumption) (by assumption) (by assumption)]; exact ((TEnt.put1 0 (x' := .tup [.agg (RcC rc0), .int 0, .int 14]) (by show Ent _ (.tup [.agg [.int 0, .int 0, .int 0, .int 0, .int 0, .int 0, .int 0, .int 0, .int 0, .v (.slice none 0 0)], .int 0, .int _]) _; exact Ent.tup (EntL.cons rc0_view (EntL.refl _)))).trans (TEnt.fin [] (by decide) (by simp) rfl ⟨by simp [AV.ren, renL, RcC_ren], trivial⟩))) | (rw [getR_5 (by assumption) (by assumption) (by assumption) (by assumption) (by simpa using hc)]; exact ((TEnt.put1 0 (x' := .tup [.agg (RcC rc0), .int 0, .int 15]) (by show Ent _ (.tup [.agg [.int 0, .int 0, .int 0, .int 0, .int 0, .int 0, .int 0, .int 0, .int 0, .v (.slice none 0 0)], .int 0, .int _]) _; exact Ent.tup (EntL.cons rc0_view (EntL.refl _)))).trans (TEnt.fin [] (by decide) (by simp) rfl ⟨by simp [AV.ren, renL, RcC_ren], trivial⟩))) | (rw [getR_6 (by assumption) (by assumption) (by assumption) (by assumption) (by assumption) (by simp_all)]; exact ((TEnt.put1 0 (x' := .tup [.agg (RcC rc0), .int 0, .int 13]) (by show Ent _ (.tup [.agg [.int 0, .int 0, .int 0, .int 0, .int 0, .int 0, .int 0, .int 0, .int 0, .v (.slice none 0 0)], .int 0, .int _]) _; exact Ent.tup (EntL.cons rc0_view (EntL.refl _)))).trans (TEnt.fin [] (by decide) (by simp) rfl ⟨by simp [AV.ren, renL, RcC_ren], trivial⟩))) | (rw [getR_7 (by assumption) (by assumption) (by assumption) (by assumption) (by assumption) (by simp_all)]; exact TEnt.fin [] (by decide) (by simp) rfl ⟨by show AV.ren (pos []) (.tup [.agg (RcC (xr (gP l))), .int _, .int _]) = _; simp [AV.ren, renL, RcC_ren], trivial⟩)
 ·(try simp only [dE] at hc)
  have hk := hc
  refine T.seq fun K5 hK5 => ?_
  refine T.region ?_
  refine rs rfl rfl (ok_move (.inl rfl)) ?_
  refine rs rfl rfl (ok_len' rfl rfl ti_Luint8 rfl (by first | exact ints_length _ _ | exact rowsA_length _ _ | exact Cms_len _ | exact mapLen _ | rfl)) ?_
  refine rs rfl rfl (ok_binOp rfl ti_int rfl) ?_
  refine rs rfl rfl (ok_move (.inr rfl)) ?_
  refine ro_nil ?_
  refine keepK hK5 [0, 1, 4, 18] (by dsimp) (by dsimp) ?_
  refine T.cond rfl (fun hc => ?_) (fun hc => ?_) -- cond 2
  ·(try simp only [dE] at hc)
   refine T.seq fun K6 hK6 => ?_
   refine T.region ?_
   refine rs rfl rfl (ok_build rfl ti_api_Rec rfl) ?_
   refine rs rfl rfl (ok_store rfl ti_api_Rec (by decide) rfl rfl rfl rfl rfl (by first | exact Nat.le_of_ble_eq_true rfl | simp) (by first | exact .inl ⟨rfl, rfl⟩ | exact .inr rfl)) ?_
   refine rs rfl rfl (ok_move (.inr rfl)) ?_
   refine rs rfl rfl (ok_move (.inr rfl)) ?_
   refine ro_nil ?_
   refine keepK hK6 [4, 5, 6] (by dsimp) (by dsimp) ?_
   refine T.ret (hQ _ _ _ rfl ?_).1 -- ret 2
   exact by first | (rw [getR_1 (by assumption)]; exact ((TEnt.put1 0 (x' := .tup [.agg (RcC rc0), .int 0, .int 1]) (by show Ent _ (.tup [.agg [.int 0, .int 0, .int 0, .int 0, .int 0, .int 0, .int 0, .int 0, .int 0, .v (.slice none 0 0)], .int 0, .int _]) _; exact Ent.tup (EntL.cons rc0_view (EntL.refl _)))).trans (TEnt.fin [] (by decide) (by simp) rfl ⟨by simp [AV.ren, renL, RcC_ren], trivial⟩))) | (rw [getR_2 (by assumption) (by omega)]; exact ((TEnt.put1 0 (x' := .tup [.agg (RcC rc0), .int 0, .int 14]) (by show Ent _ (.tup [.agg [.int 0, .int 0, .int 0, .int 0, .int 0, .int 0, .int 0, .int 0, .int 0, .v (.slice none 0 0)], .int 0, .int _]) _; exact Ent.tup (EntL.cons rc0_view (EntL.refl _)))).trans (TEnt.fin [] (by decide) (by simp) rfl ⟨by simp [AV.ren, renL, RcC_ren], trivial⟩))) | (rw [getR_3 (by assumption) (by assumption) (by assumption)]; exact ((TEnt.put1 0 (x' := .tup [.agg (RcC rc0), .int 0, .int 13]) (by show Ent _ (.tup [.agg [.int 0, .int 0, .int 0, .int 0, .int 0, .int 0, .int 0, .int 0, .int 0, .v (.slice none 0 0)], .int 0, .int _]) _; exact Ent.tup (EntL.cons rc0_view (EntL.refl _)))).trans (TEnt.fin [] (by decide) (by simp) rfl ⟨by simp [AV.ren, renL, RcC_ren], trivial⟩))) | (rw [getR_4 (by assumption) (by assumption) (by assumption) (by assumption)]; exact ((TEnt.put1 0 (x' := .tup [.agg (RcC rc0), .int 0, .int 14]) (by show Ent _ (.tup [.agg [.int 0, .int 0, .int 0, .int 0, .int 0, .int 0, .int 0, .int 0, .int 0, .v (.slice none 0 0)], .int 0, .int _]) _; exact Ent.tup (EntL.cons rc0_view (EntL.refl _)))).trans (TEnt.fin [] (by decide) (by simp) rfl ⟨by simp [AV.ren, renL, RcC_ren], trivial⟩))) | (rw [getR_5 (by assumption) (by assumption) (by assumption) (by assumption) (by simpa using hc)]; exact ((TEnt.put1 0 (x' := .tup [.agg (RcC rc0), .int 0, .int 15]) (by show Ent _ (.tup [.agg [.int 0, .int 0, .int 0, .int 0, .int 0, .int 0, .int 0, .int 0, .int 0, .v (.slice none 0 0)], .int 0, .int _]) _; exact Ent.tup (EntL.cons rc0_view (EntL.refl _)))).trans (TEnt.fin [] (by decide) (by simp) rfl ⟨by simp [AV.ren, renL, RcC_ren], trivial⟩))) | (rw [getR_6 (by assumption) (by assumption) (by assumption) (by assumption) (by assumption) (by simp_all)]; exact ((TEnt.put1 0 (x' := .tup [.agg (RcC rc0), .int 0, .int 13]) (by show Ent _ (.tup [.agg [.int 0, .int 0, .int 0, .int 0, .int 0, .int 0, .int 0, .int 0, .int 0, .v (.slice none 0 0)], .int 0, .int _]) _; exact Ent.tup (EntL.cons rc0_view (EntL.refl _)))).trans (TEnt.fin [] (by decide) (by simp) rfl ⟨by simp [AV.ren, renL, RcC_ren], trivial⟩))) | (rw [getR_7 (by assumption) (by assumption) (by assumption) (by assumption) (by assumption) (by simp_all)]; exact TEnt.fin [] (by decide) (by simp) rfl ⟨by show AV.ren (pos []) (.tup [.agg (RcC (xr (gP l))), .int _, .int _]) = _; simp [AV.ren, renL, RcC_ren], trivial⟩)
  ·(try simp only [dE] at hc)
   have h16 : ¬ l.length < 16 := by omega
   have hn := gN_bd (l := l)
   have hm := gM_bd (l := l) hk
   have h0l : (l.take 16).length = 16 := by simp; omega
   have hB0 : Bytes (l.take 16) := hB.take 16
   have hq0 := ri_le (l := l.take 16) (p := 0) (e := 0) (a := 0) (b := 1048656) (by omega)
   have hq1 := ri_le (l := l.take 16) (p := (gQ0 l).1) (e := (gQ0 l).2.1) (a := -9223372036854775808) (b := 9223372036854775807) hq0
   refine T.skip ?_
   refine keepK hK2 [0, 1, 4] (by dsimp) (by dsimp) ?_
   refine T.seq fun K7 hK7 => ?_
   refine T.region ?_
   refine rs rfl rfl (ok_move (.inl rfl)) ?_
   refine ro rfl rfl (OpOk.step ((ok_slice rfl ti_Luint8 (.inl ⟨_, _, rfl, ti_uint8, rfl⟩) (zl := none) (zh := some 16) rfl rfl rfl (r := .fz 1 (ints .u8 (l.take 16))) (by
  have h1 : (16 : Int) ≤ l.length := by omega
  simp [sliceA, h1, ints, List.map_take])))) ?_
   refine ro rfl rfl (ok_call rfl rfl rfl ((new_ok (l.take 16) (by omega)).fresh (x' := .ref 1 0 0) (H' := [some (R (l.take 16) 0 0)]) (by simp [renL, AV.ren, renL_ints]) rfl (by simp [renH, R_ren]))) ?_
   refine rs rfl rfl (ok_move (.inr rfl)) ?_
   refine ro_nil ?_
   refine keepK hK7 [0, 1, 4, 7] (by dsimp) (by dsimp) ?_
   refine T.seq fun K8 hK8 => ?_
   refine T.region ?_
   refine rs rfl rfl (ok_move (.inl rfl)) ?_
   refine ro rfl rfl (ok_call rfl rfl rfl (((int_ok (l.take 16) 0 0 0 1048656 hB0 (by omega) (by omega)).passR 1 rfl rfl (fun _ => rfl)).eq (x' := .int (gN l)) (H'' := [some ZB, some (R (l.take 16) (gQ0 l).1 (gQ0 l).2.1)]) rfl rfl)) ?_
   refine rs rfl rfl (ok_move (.inl rfl)) ?_
   refine ro rfl rfl (ok_call rfl rfl rfl (((int_ok (l.take 16) (gQ0 l).1 (gQ0 l).2.1 (-9223372036854775808) 9223372036854775807 hB0 hq0 (by omega)).passR 1 rfl rfl (fun _ => rfl)).eq (x' := .int (gQ1 l).2.2) (H'' := [some ZB, some (R (l.take 16) (gQ1 l).1 (gQ1 l).2.1)]) rfl rfl)) ?_
   refine rs rfl rfl (ok_move (.inr rfl)) ?_
   refine rs rfl rfl (ok_move (.inr rfl)) ?_
   refine ro_nil ?_
   refine keepK hK8 [0, 1, 4, 7, 8, 9] (by dsimp) (by dsimp) ?_
   refine T.seq fun K9 hK9 => ?_
   refine T.seq fun K10 hK10 => ?_
   refine T.region ?_
   refine rs rfl rfl (ok_move (.inl rfl)) ?_
   refine ro rfl rfl (ok_call rfl rfl rfl (((err_ok (l.take 16) (gQ1 l).1 (gQ1 l).2.1).passR 1 rfl rfl (fun _ => rfl)).eq (x' := .int (gQ1 l).2.1) (H'' := [some ZB, some (R (l.take 16) (gQ1 l).1 (gQ1 l).2.1)]) rfl rfl)) ?_
   refine rs rfl rfl (ok_binOp rfl ti_api_Errno rfl) ?_
   refine ro_nil ?_
   refine keepK hK10 [0, 1, 4, 8, 9, 32] (by dsimp) (by dsimp) ?_
   refine T.cond rfl (fun hc => ?_) (fun hc => ?_) -- cond 3
   ·(try simp only [dE] at hc)
    refine T.seq fun K11 hK11 => ?_
    refine T.region ?_
    refine rs rfl rfl (ok_build rfl ti_api_Rec rfl) ?_
    refine rs rfl rfl (ok_store rfl ti_api_Rec (by decide) rfl rfl rfl rfl rfl (by first | exact Nat.le_of_ble_eq_true rfl | simp) (by first | exact .inl ⟨rfl, rfl⟩ | exact .inr rfl)) ?_
    refine rs rfl rfl (ok_move (.inr rfl)) ?_
    refine rs rfl rfl (ok_move (.inr rfl)) ?_
    refine ro_nil ?_
    refine keepK hK11 [4, 5, 6] (by dsimp) (by dsimp) ?_
    refine T.ret (hQ _ _ _ rfl ?_).1 -- ret 3
    exact by first | (rw [getR_1 (by assumption)]; exact ((TEnt.put1 0 (x' := .tup [.agg (RcC rc0), .int 0, .int 1]) (by show Ent _ (.tup [.agg [.int 0, .int 0, .int 0, .int 0, .int 0, .int 0, .int 0, .int 0, .int 0, .v (.slice none 0 0)], .int 0, .int _]) _; exact Ent.tup (EntL.cons rc0_view (EntL.refl _)))).trans (TEnt.fin [] (by decide) (by simp) rfl ⟨by simp [AV.ren, renL, RcC_ren], trivial⟩))) | (rw [getR_2 (by assumption) (by omega)]; exact ((TEnt.put1 0 (x' := .tup [.agg (RcC rc0), .int 0, .int 14]) (by show Ent _ (.tup [.agg [.int 0, .int 0, .int 0, .int 0, .int 0, .int 0, .int 0, .int 0, .int 0, .v (.slice none 0 0)], .int 0, .int _]) _; exact Ent.tup (EntL.cons rc0_view (EntL.refl _)))).trans (TEnt.fin [] (by decide) (by simp) rfl ⟨by simp [AV.ren, renL, RcC_ren], trivial⟩))) | (rw [getR_3 (by assumption) (by assumption) (by assumption)]; exact ((TEnt.put1 0 (x' := .tup [.agg (RcC rc0), .int 0, .int 13]) (by show Ent _ (.tup [.agg [.int 0, .int 0, .int 0, .int 0, .int 0, .int 0, .int 0, .int 0, .int 0, .v (.slice none 0 0)], .int 0, .int _]) _; exact Ent.tup (EntL.cons rc0_view (EntL.refl _)))).trans (TEnt.fin [] (by decide) (by simp) rfl ⟨by simp [AV.ren, renL, RcC_ren], trivial⟩))) | (rw [getR_4 (by assumption) (by assumption) (by assumption) (by assumption)]; exact ((TEnt.put1 0 (x' := .tup [.agg (RcC rc0), .int 0, .int 14]) (by show Ent _ (.tup [.agg [.int 0, .int 0, .int 0, .int 0, .int 0, .int 0, .int 0, .int 0, .int 0, .v (.slice none 0 0)], .int 0, .int _]) _; exact Ent.tup (EntL.cons rc0_view (EntL.refl _)))).trans (TEnt.fin [] (by decide) (by simp) rfl ⟨by simp [AV.ren, renL, RcC_ren], trivial⟩))) | (rw [getR_5 (by assumption) (by assumption) (by assumption) (by assumption) (by simpa using hc)]; exact ((TEnt.put1 0 (x' := .tup [.agg (RcC rc0), .int 0, .int 15]) (by show Ent _ (.tup [.agg [.int 0, .int 0, .int 0, .int 0, .int 0, .int 0, .int 0, .int 0, .int 0, .v (.slice none 0 0)], .int 0, .int _]) _; exact Ent.tup (EntL.cons rc0_view (EntL.refl _)))).trans (TEnt.fin [] (by decide) (by simp) rfl ⟨by simp [AV.ren, renL, RcC_ren], trivial⟩))) | (rw [getR_6 (by assumption) (by assumption) (by assumption) (by assumption) (by assumption) (by simp_all)]; exact ((TEnt.put1 0 (x' := .tup [.agg (RcC rc0), .int 0, .int 13]) (by show Ent _ (.tup [.agg [.int 0, .int 0, .int 0, .int 0, .int 0, .int 0, .int 0, .int 0, .int 0, .v (.slice none 0 0)], .int 0, .int _]) _; exact Ent.tup (EntL.cons rc0_view (EntL.refl _)))).trans (TEnt.fin [] (by decide) (by simp) rfl ⟨by simp [AV.ren, renL, RcC_ren], trivial⟩))) | (rw [getR_7 (by assumption) (by assumption) (by assumption) (by assumption) (by assumption) (by simp_all)]; exact TEnt.fin [] (by decide) (by simp) rfl ⟨by show AV.ren (pos []) (.tup [.agg (RcC (xr (gP l))), .int _, .int _]) = _; simp [AV.ren, renL, RcC_ren], trivial⟩)
   ·(try simp only [dE] at hc)
    have h3 : ¬ (gQ1 l).2.1 ≠ 0 := by simpa using hc
    refine T.skip ?_
    refine keepK hK9 [0, 1, 4, 8, 9] (by dsimp) (by dsimp) ?_
    refine T.seq fun K12 hK12 => ?_
    refine T.region ?_
    refine rs rfl rfl (ok_move (.inl rfl)) ?_
    refine rs rfl rfl (ok_add64 rfl ti_int rfl rfl (by omega) (by omega)) ?_
    refine rs rfl rfl (ok_move (.inl rfl)) ?_
    refine rs rfl rfl (ok_add64 rfl ti_int rfl rfl (by omega) (by omega)) ?_
    refine rs rfl rfl (ok_sub64 rfl ti_int rfl rfl (by omega) (by omega)) ?_
    refine rs rfl rfl (ok_move (.inl rfl)) ?_
    refine rs rfl rfl ((ok_quo64 rfl ti_int rfl rfl (by omega) (by omega) (by omega)).eq (x' := .int (gM l k)) rfl rfl) ?_
    refine rs rfl rfl (ok_move (.inr rfl)) ?_
    refine ro_nil ?_
    refine keepK hK12 [0, 1, 4, 5, 8, 9] (by dsimp) (by dsimp) ?_
    refine T.seq fun K13 hK13 => ?_
    refine T.seq fun K14 hK14 => ?_
    refine T.region ?_
    refine rs rfl rfl (ok_move (.inl rfl)) ?_
    refine rs rfl rfl (ok_move (.inl rfl)) ?_
    refine rs rfl rfl (ok_mul64 rfl ti_int rfl rfl (by omega) (by omega)) ?_
    refine rs rfl rfl (ok_move (.inl rfl)) ?_
    refine rs rfl rfl (ok_len' rfl rfl ti_Luint8 rfl (by first | exact ints_length _ _ | exact rowsA_length _ _ | exact Cms_len _ | exact mapLen _ | rfl)) ?_
    refine rs rfl rfl (ok_binOp rfl ti_int rfl) ?_
    refine ro_nil ?_
    refine keepK hK14 [0, 1, 4, 5, 8, 9, 46] (by dsimp) (by dsimp) ?_
    refine T.cond rfl (fun hc => ?_) (fun hc => ?_) -- cond 4
    ·(try simp only [dE] at hc)
     refine T.seq fun K15 hK15 => ?_
     refine T.region ?_
     refine rs rfl rfl (ok_build rfl ti_api_Rec rfl) ?_
     refine rs rfl rfl (ok_store rfl ti_api_Rec (by decide) rfl rfl rfl rfl rfl (by first | exact Nat.le_of_ble_eq_true rfl | simp) (by first | exact .inl ⟨rfl, rfl⟩ | exact .inr rfl)) ?_
     refine rs rfl rfl (ok_move (.inr rfl)) ?_
     refine rs rfl rfl (ok_move (.inr rfl)) ?_
     refine ro_nil ?_
     refine keepK hK15 [4, 5, 6] (by dsimp) (by dsimp) ?_
     refine T.ret (hQ _ _ _ rfl ?_).1 -- ret 4
     exact by first | (rw [getR_1 (by assumption)]; exact ((TEnt.put1 0 (x' := .tup [.agg (RcC rc0), .int 0, .int 1]) (by show Ent _ (.tup [.agg [.int 0, .int 0, .int 0, .int 0, .int 0, .int 0, .int 0, .int 0, .int 0, .v (.slice none 0 0)], .int 0, .int _]) _; exact Ent.tup (EntL.cons rc0_view (EntL.refl _)))).trans (TEnt.fin [] (by decide) (by simp) rfl ⟨by simp [AV.ren, renL, RcC_ren], trivial⟩))) | (rw [getR_2 (by assumption) (by omega)]; exact ((TEnt.put1 0 (x' := .tup [.agg (RcC rc0), .int 0, .int 14]) (by show Ent _ (.tup [.agg [.int 0, .int 0, .int 0, .int 0, .int 0, .int 0, .int 0, .int 0, .int 0, .v (.slice none 0 0)], .int 0, .int _]) _; exact Ent.tup (EntL.cons rc0_view (EntL.refl _)))).trans (TEnt.fin [] (by decide) (by simp) rfl ⟨by simp [AV.ren, renL, RcC_ren], trivial⟩))) | (rw [getR_3 (by assumption) (by assumption) (by assumption)]; exact ((TEnt.put1 0 (x' := .tup [.agg (RcC rc0), .int 0, .int 13]) (by show Ent _ (.tup [.agg [.int 0, .int 0, .int 0, .int 0, .int 0, .int 0, .int 0, .int 0, .int 0, .v (.slice none 0 0)], .int 0, .int _]) _; exact Ent.tup (EntL.cons rc0_view (EntL.refl _)))).trans (TEnt.fin [] (by decide) (by simp) rfl ⟨by simp [AV.ren, renL, RcC_ren], trivial⟩))) | (rw [getR_4 (by assumption) (by assumption) (by assumption) (by assumption)]; exact ((TEnt.put1 0 (x' := .tup [.agg (RcC rc0), .int 0, .int 14]) (by show Ent _ (.tup [.agg [.int 0, .int 0, .int 0, .int 0, .int 0, .int 0, .int 0, .int 0, .int 0, .v (.slice none 0 0)], .int 0, .int _]) _; exact Ent.tup (EntL.cons rc0_view (EntL.refl _)))).trans (TEnt.fin [] (by decide) (by simp) rfl ⟨by simp [AV.ren, renL, RcC_ren], trivial⟩))) | (rw [getR_5 (by assumption) (by assumption) (by assumption) (by assumption) (by simpa using hc)]; exact ((TEnt.put1 0 (x' := .tup [.agg (RcC rc0), .int 0, .int 15]) (by show Ent _ (.tup [.agg [.int 0, .int 0, .int 0, .int 0, .int 0, .int 0, .int 0, .int 0, .int 0, .v (.slice none 0 0)], .int 0, .int _]) _; exact Ent.tup (EntL.cons rc0_view (EntL.refl _)))).trans (TEnt.fin [] (by decide) (by simp) rfl ⟨by simp [AV.ren, renL, RcC_ren], trivial⟩))) | (rw [getR_6 (by assumption) (by assumption) (by assumption) (by assumption) (by assumption) (by simp_all)]; exact ((TEnt.put1 0 (x' := .tup [.agg (RcC rc0), .int 0, .int 13]) (by show Ent _ (.tup [.agg [.int 0, .int 0, .int 0, .int 0, .int 0, .int 0, .int 0, .int 0, .int 0, .v (.slice none 0 0)], .int 0, .int _]) _; exact Ent.tup (EntL.cons rc0_view (EntL.refl _)))).trans (TEnt.fin [] (by decide) (by simp) rfl ⟨by simp [AV.ren, renL, RcC_ren], trivial⟩))) | (rw [getR_7 (by assumption) (by assumption) (by assumption) (by assumption) (by assumption) (by simp_all)]; exact TEnt.fin [] (by decide) (by simp) rfl ⟨by show AV.ren (pos []) (.tup [.agg (RcC (xr (gP l))), .int _, .int _]) = _; simp [AV.ren, renL, RcC_ren], trivial⟩)
    ·(try simp only [dE] at hc)
     have h4 : ¬ gM l k * k > l.length := hc
     refine T.skip ?_
     refine keepK hK13 [0, 1, 4, 5, 8, 9] (by dsimp) (by dsimp) ?_
     refine T.seq fun K16 hK16 => ?_
     refine T.drawH mixed [] ?_
     refine any_take 0 rfl (by first | rfl | decide +kernel) rfl (HeldL.refl _) (fun H' hH => OpOk.step (ok_move (.inl rfl))) ?_
     refine any_take 1 rfl (by first | rfl | decide +kernel) rfl (HeldL.refl _) (fun H' hH => OpOk.step (ok_move (.inl rfl))) ?_
     refine any_take 2 rfl (by first | rfl | decide +kernel) rfl (HeldL.refl _) (fun H' hH => OpOk.step (ok_add64 rfl ti_int rfl rfl (by omega) (by omega))) ?_
     refine any_take 3 rfl (by first | rfl | decide +kernel) rfl (HeldL.refl _) (fun H' hH => OpOk.step ((ok_slice rfl ti_Luint8 (.inl ⟨_, _, rfl, ti_uint8, rfl⟩) (zl := some 16) (zh := some (16 + gN l)) rfl rfl rfl (r := .fz 1 (ints .u8 (gP l))) (sliceA_held hH (by
  have h1 : (16 : Int) ≤ 16 + gN l := by omega
  have h2 : 16 + gN l ≤ l.length := by omega
  have h3 : (16 : Int).toNat = 16 := rfl
  simp [sliceA, h1, h2, gP, ints, List.map_take, List.map_drop, h3]))))) ?_
     refine any_take 4 rfl (by first | rfl | decide +kernel) rfl (HeldL.refl _) (fun H' hH => OpOk.step (ok_move (.inl rfl))) ?_
     refine any_take 5 rfl (by first | rfl | decide +kernel) rfl (HeldL.refl _) (fun H' hH => OpOk.step (ok_move (.inl rfl))) ?_
     refine any_take 6 rfl (by first | rfl | decide +kernel) rfl (HeldL.refl _) (fun H' hH => OpOk.step (ok_add64 rfl ti_int rfl rfl (by omega) (by omega))) ?_
     refine any_take 7 rfl (by first | rfl | decide +kernel) rfl (HeldL.refl _) (fun H' hH => OpOk.step (ok_move (.inl rfl))) ?_
     refine any_take 8 rfl (by first | rfl | decide +kernel) rfl (HeldL.refl _) (fun H' hH => OpOk.step (ok_move (.inl rfl))) ?_
     refine any_take 9 rfl (by first | rfl | decide +kernel) rfl (HeldL.refl _) (fun H' hH => OpOk.step (ok_mul64 rfl ti_int rfl rfl (by omega) (by omega))) ?_
     refine any_take 10 rfl (by first | rfl | decide +kernel) rfl (HeldL.refl _) (fun H' hH => OpOk.step ((ok_slice rfl ti_Luint8 (.inl ⟨_, _, rfl, ti_uint8, rfl⟩) (zl := some (16 + gN l)) (zh := some (gM l k * k)) rfl rfl rfl (r := .fz 1 (ints .u8 (gT l k))) (sliceA_held hH (by
  have h0 : (0 : Int) ≤ 16 + gN l := by omega
  have h1 : 16 + gN l ≤ gM l k * k := by omega
  have h2 : gM l k * k ≤ l.length := by omega
  simp [sliceA, h0, h1, h2, gT, ints, List.map_take, List.map_drop]))))) ?_
     refine any_take 11 rfl (by first | rfl | decide +kernel) rfl (HeldL.refl _) (fun H' hH => OpOk.step (ok_move (.inr rfl))) ?_
     refine any_take 12 rfl (by first | rfl | decide +kernel) rfl (HeldL.refl _) (fun H' hH => OpOk.step (ok_move (.inr rfl))) ?_
     refine any_done rfl ?_
     refine keepK hK16 [4, 5, 9, 10, 11] (by dsimp) (by dsimp) ?_
     refine T.seq fun K17 hK17 => ?_
     refine T.seq fun K18 hK18 => ?_
     have hPl : (gP l).length ≤ l.length := by simp [gP]; omega
     have hTl : (gT l k).length ≤ l.length := by simp [gT]; omega
     have hPB : Bytes (gP l) := (hB.take _).drop _
     refine T.region ?_
     refine rs rfl rfl (ok_move (.inl rfl)) ?_
     refine rs rfl rfl (ok_move (.inl rfl)) ?_
     refine ro rfl rfl (ok_call rfl rfl rfl ((crcOf_ok hPB (by omega)).plain (by simp [renL, AV.ren, renL_ints]) rfl)) ?_
     refine rs rfl rfl ((ok_conv_int rfl ti_uint32 ti_int rfl rfl).eq (x' := .int (crcV (gP l))) (by rw [wrap_crc]) rfl) ?_
     refine rs rfl rfl (ok_binOp rfl ti_int rfl) ?_
     refine ro_nil ?_
     refine keepK hK18 [4, 5, 10, 11, 63] (by dsimp) (by dsimp) ?_
     refine T.cond rfl (fun hc => ?_) (fun hc => ?_) -- cond 5
     ·(try simp only [dE] at hc)
      refine T.seq fun K19 hK19 => ?_
      refine T.region ?_
      refine rs rfl rfl (ok_build rfl ti_api_Rec rfl) ?_
      refine rs rfl rfl (ok_store rfl ti_api_Rec (by decide) rfl rfl rfl rfl rfl (by first | exact Nat.le_of_ble_eq_true rfl | simp) (by first | exact .inl ⟨rfl, rfl⟩ | exact .inr rfl)) ?_
      refine rs rfl rfl (ok_move (.inr rfl)) ?_
      refine rs rfl rfl (ok_move (.inr rfl)) ?_
      refine ro_nil ?_
      refine keepK hK19 [4, 5, 6] (by dsimp) (by dsimp) ?_
      refine T.ret (hQ _ _ _ rfl ?_).1 -- ret 5
      exact by first | (rw [getR_1 (by assumption)]; exact ((TEnt.put1 0 (x' := .tup [.agg (RcC rc0), .int 0, .int 1]) (by show Ent _ (.tup [.agg [.int 0, .int 0, .int 0, .int 0, .int 0, .int 0, .int 0, .int 0, .int 0, .v (.slice none 0 0)], .int 0, .int _]) _; exact Ent.tup (EntL.cons rc0_view (EntL.refl _)))).trans (TEnt.fin [] (by decide) (by simp) rfl ⟨by simp [AV.ren, renL, RcC_ren], trivial⟩))) | (rw [getR_2 (by assumption) (by omega)]; exact ((TEnt.put1 0 (x' := .tup [.agg (RcC rc0), .int 0, .int 14]) (by show Ent _ (.tup [.agg [.int 0, .int 0, .int 0, .int 0, .int 0, .int 0, .int 0, .int 0, .int 0, .v (.slice none 0 0)], .int 0, .int _]) _; exact Ent.tup (EntL.cons rc0_view (EntL.refl _)))).trans (TEnt.fin [] (by decide) (by simp) rfl ⟨by simp [AV.ren, renL, RcC_ren], trivial⟩))) | (rw [getR_3 (by assumption) (by assumption) (by assumption)]; exact ((TEnt.put1 0 (x' := .tup [.agg (RcC rc0), .int 0, .int 13]) (by show Ent _ (.tup [.agg [.int 0, .int 0, .int 0, .int 0, .int 0, .int 0, .int 0, .int 0, .int 0, .v (.slice none 0 0)], .int 0, .int _]) _; exact Ent.tup (EntL.cons rc0_view (EntL.refl _)))).trans (TEnt.fin [] (by decide) (by simp) rfl ⟨by simp [AV.ren, renL, RcC_ren], trivial⟩))) | (rw [getR_4 (by assumption) (by assumption) (by assumption) (by assumption)]; exact ((TEnt.put1 0 (x' := .tup [.agg (RcC rc0), .int 0, .int 14]) (by show Ent _ (.tup [.agg [.int 0, .int 0, .int 0, .int 0, .int 0, .int 0, .int 0, .int 0, .int 0, .v (.slice none 0 0)], .int 0, .int _]) _; exact Ent.tup (EntL.cons rc0_view (EntL.refl _)))).trans (TEnt.fin [] (by decide) (by simp) rfl ⟨by simp [AV.ren, renL, RcC_ren], trivial⟩))) | (rw [getR_5 (by assumption) (by assumption) (by assumption) (by assumption) (by simpa using hc)]; exact ((TEnt.put1 0 (x' := .tup [.agg (RcC rc0), .int 0, .int 15]) (by show Ent _ (.tup [.agg [.int 0, .int 0, .int 0, .int 0, .int 0, .int 0, .int 0, .int 0, .int 0, .v (.slice none 0 0)], .int 0, .int _]) _; exact Ent.tup (EntL.cons rc0_view (EntL.refl _)))).trans (TEnt.fin [] (by decide) (by simp) rfl ⟨by simp [AV.ren, renL, RcC_ren], trivial⟩))) | (rw [getR_6 (by assumption) (by assumption) (by assumption) (by assumption) (by assumption) (by simp_all)]; exact ((TEnt.put1 0 (x' := .tup [.agg (RcC rc0), .int 0, .int 13]) (by show Ent _ (.tup [.agg [.int 0, .int 0, .int 0, .int 0, .int 0, .int 0, .int 0, .int 0, .int 0, .v (.slice none 0 0)], .int 0, .int _]) _; exact Ent.tup (EntL.cons rc0_view (EntL.refl _)))).trans (TEnt.fin [] (by decide) (by simp) rfl ⟨by simp [AV.ren, renL, RcC_ren], trivial⟩))) | (rw [getR_7 (by assumption) (by assumption) (by assumption) (by assumption) (by assumption) (by simp_all)]; exact TEnt.fin [] (by decide) (by simp) rfl ⟨by show AV.ren (pos []) (.tup [.agg (RcC (xr (gP l))), .int _, .int _]) = _; simp [AV.ren, renL, RcC_ren], trivial⟩)
     ·(try simp only [dE] at hc)
      have h5 : ¬ (gQ1 l).2.2 ≠ crcV (gP l) := by simpa using hc
      refine T.skip ?_
      refine keepK hK17 [4, 5, 10, 11] (by dsimp) (by dsimp) ?_
      refine T.seq fun K20 hK20 => ?_
      refine T.region ?_
      refine rs rfl rfl (ok_move (.inl rfl)) ?_
      refine ro rfl rfl (ok_call rfl rfl rfl ((parse_ok (gP l) hPB (by omega)).plain (by simp [renL, AV.ren, renL_ints]) (by simp [AV.ren, renL, RcC_ren]))) ?_
      refine rs rfl rfl (ok_move (.inl rfl)) ?_
      refine rs rfl rfl (ok_extract rfl rfl rfl) ?_
      refine rs rfl rfl (ok_extract rfl rfl rfl) ?_
      refine rs rfl rfl (ok_store rfl ti_api_Rec (by decide) rfl rfl rfl rfl rfl (by first | exact Nat.le_of_ble_eq_true rfl | simp) (by first | exact .inl ⟨rfl, rfl⟩ | exact .inr rfl)) ?_
      refine rs rfl rfl (ok_move (.inr rfl)) ?_
      refine ro_nil ?_
      refine keepK hK20 [4, 5, 11, 12] (by dsimp) (by dsimp) ?_
      refine T.seq fun K21 hK21 => ?_
      refine T.seq fun K22 hK22 => ?_
      refine T.region ?_
      refine rs rfl rfl (ok_move (.inl rfl)) ?_
      refine rs rfl rfl (ok_unOp rfl rfl) ?_
      refine ro_case rfl rfl (OpOk.step (ok_moveb (.inl rfl) rfl)) (fun hb => ?_) (fun hb => ?_)
      ·(try simp only [dE] at hb)
       refine ro_skip rfl rfl ?_
       refine ro_skip rfl rfl ?_
       refine ro_skip rfl rfl ?_
       refine rs rfl rfl (ok_pickb (t := true) (d := true) rfl rfl rfl) ?_
       refine ro_nil ?_
       refine keepK hK22 [4, 5, 76] (by dsimp) (by dsimp) ?_
       refine T.cond_true rfl ?_
       refine T.seq fun K23 hK23 => ?_
       refine T.region ?_
       refine rs rfl rfl (ok_build rfl ti_api_Rec rfl) ?_
       refine rs rfl rfl (ok_store rfl ti_api_Rec (by decide) rfl rfl rfl rfl rfl (by first | exact Nat.le_of_ble_eq_true rfl | simp) (by first | exact .inl ⟨rfl, rfl⟩ | exact .inr rfl)) ?_
       refine rs rfl rfl (ok_move (.inr rfl)) ?_
       refine rs rfl rfl (ok_move (.inr rfl)) ?_
       refine ro_nil ?_
       refine keepK hK23 [4, 5, 6] (by dsimp) (by dsimp) ?_
       refine T.ret (hQ _ _ _ rfl ?_).1 -- ret 6
       exact by first | (rw [getR_1 (by assumption)]; exact ((TEnt.put1 0 (x' := .tup [.agg (RcC rc0), .int 0, .int 1]) (by show Ent _ (.tup [.agg [.int 0, .int 0, .int 0, .int 0, .int 0, .int 0, .int 0, .int 0, .int 0, .v (.slice none 0 0)], .int 0, .int _]) _; exact Ent.tup (EntL.cons rc0_view (EntL.refl _)))).trans (TEnt.fin [] (by decide) (by simp) rfl ⟨by simp [AV.ren, renL, RcC_ren], trivial⟩))) | (rw [getR_2 (by assumption) (by omega)]; exact ((TEnt.put1 0 (x' := .tup [.agg (RcC rc0), .int 0, .int 14]) (by show Ent _ (.tup [.agg [.int 0, .int 0, .int 0, .int 0, .int 0, .int 0, .int 0, .int 0, .int 0, .v (.slice none 0 0)], .int 0, .int _]) _; exact Ent.tup (EntL.cons rc0_view (EntL.refl _)))).trans (TEnt.fin [] (by decide) (by simp) rfl ⟨by simp [AV.ren, renL, RcC_ren], trivial⟩))) | (rw [getR_3 (by assumption) (by assumption) (by assumption)]; exact ((TEnt.put1 0 (x' := .tup [.agg (RcC rc0), .int 0, .int 13]) (by show Ent _ (.tup [.agg [.int 0, .int 0, .int 0, .int 0, .int 0, .int 0, .int 0, .int 0, .int 0, .v (.slice none 0 0)], .int 0, .int _]) _; exact Ent.tup (EntL.cons rc0_view (EntL.refl _)))).trans (TEnt.fin [] (by decide) (by simp) rfl ⟨by simp [AV.ren, renL, RcC_ren], trivial⟩))) | (rw [getR_4 (by assumption) (by assumption) (by assumption) (by assumption)]; exact ((TEnt.put1 0 (x' := .tup [.agg (RcC rc0), .int 0, .int 14]) (by show Ent _ (.tup [.agg [.int 0, .int 0, .int 0, .int 0, .int 0, .int 0, .int 0, .int 0, .int 0, .v (.slice none 0 0)], .int 0, .int _]) _; exact Ent.tup (EntL.cons rc0_view (EntL.refl _)))).trans (TEnt.fin [] (by decide) (by simp) rfl ⟨by simp [AV.ren, renL, RcC_ren], trivial⟩))) | (rw [getR_5 (by assumption) (by assumption) (by assumption) (by assumption) (by simpa using hc)]; exact ((TEnt.put1 0 (x' := .tup [.agg (RcC rc0), .int 0, .int 15]) (by show Ent _ (.tup [.agg [.int 0, .int 0, .int 0, .int 0, .int 0, .int 0, .int 0, .int 0, .int 0, .v (.slice none 0 0)], .int 0, .int _]) _; exact Ent.tup (EntL.cons rc0_view (EntL.refl _)))).trans (TEnt.fin [] (by decide) (by simp) rfl ⟨by simp [AV.ren, renL, RcC_ren], trivial⟩))) | (rw [getR_6 (by assumption) (by assumption) (by assumption) (by assumption) (by assumption) (by simp_all)]; exact ((TEnt.put1 0 (x' := .tup [.agg (RcC rc0), .int 0, .int 13]) (by show Ent _ (.tup [.agg [.int 0, .int 0, .int 0, .int 0, .int 0, .int 0, .int 0, .int 0, .int 0, .v (.slice none 0 0)], .int 0, .int _]) _; exact Ent.tup (EntL.cons rc0_view (EntL.refl _)))).trans (TEnt.fin [] (by decide) (by simp) rfl ⟨by simp [AV.ren, renL, RcC_ren], trivial⟩))) | (rw [getR_7 (by assumption) (by assumption) (by assumption) (by assumption) (by assumption) (by simp_all)]; exact TEnt.fin [] (by decide) (by simp) rfl ⟨by show AV.ren (pos []) (.tup [.agg (RcC (xr (gP l))), .int _, .int _]) = _; simp [AV.ren, renL, RcC_ren], trivial⟩)
      ·(try simp only [dE] at hb)
       refine rs rfl rfl (ok_move (.inl rfl)) ?_
       refine ro rfl rfl (ok_call rfl rfl rfl ((zero_ok (gT l k) (by omega)).plain (by simp [renL, AV.ren, renL_ints]) rfl)) ?_
       refine rs rfl rfl (ok_unOp rfl rfl) ?_
       refine rs rfl rfl (ok_pick rfl rfl) ?_
       refine ro_nil ?_
       refine keepK hK22 [4, 5, 76] (by dsimp) (by dsimp) ?_
       refine T.cond rfl (fun hc => ?_) (fun hc => ?_) -- cond 6
       ·(try simp only [dE] at hc)
        refine T.seq fun K24 hK24 => ?_
        refine T.region ?_
        refine rs rfl rfl (ok_build rfl ti_api_Rec rfl) ?_
        refine rs rfl rfl (ok_store rfl ti_api_Rec (by decide) rfl rfl rfl rfl rfl (by first | exact Nat.le_of_ble_eq_true rfl | simp) (by first | exact .inl ⟨rfl, rfl⟩ | exact .inr rfl)) ?_
        refine rs rfl rfl (ok_move (.inr rfl)) ?_
        refine rs rfl rfl (ok_move (.inr rfl)) ?_
        refine ro_nil ?_
        refine keepK hK24 [4, 5, 6] (by dsimp) (by dsimp) ?_
        refine T.ret (hQ _ _ _ rfl ?_).1 -- ret 7
        exact by first | (rw [getR_1 (by assumption)]; exact ((TEnt.put1 0 (x' := .tup [.agg (RcC rc0), .int 0, .int 1]) (by show Ent _ (.tup [.agg [.int 0, .int 0, .int 0, .int 0, .int 0, .int 0, .int 0, .int 0, .int 0, .v (.slice none 0 0)], .int 0, .int _]) _; exact Ent.tup (EntL.cons rc0_view (EntL.refl _)))).trans (TEnt.fin [] (by decide) (by simp) rfl ⟨by simp [AV.ren, renL, RcC_ren], trivial⟩))) | (rw [getR_2 (by assumption) (by omega)]; exact ((TEnt.put1 0 (x' := .tup [.agg (RcC rc0), .int 0, .int 14]) (by show Ent _ (.tup [.agg [.int 0, .int 0, .int 0, .int 0, .int 0, .int 0, .int 0, .int 0, .int 0, .v (.slice none 0 0)], .int 0, .int _]) _; exact Ent.tup (EntL.cons rc0_view (EntL.refl _)))).trans (TEnt.fin [] (by decide) (by simp) rfl ⟨by simp [AV.ren, renL, RcC_ren], trivial⟩))) | (rw [getR_3 (by assumption) (by assumption) (by assumption)]; exact ((TEnt.put1 0 (x' := .tup [.agg (RcC rc0), .int 0, .int 13]) (by show Ent _ (.tup [.agg [.int 0, .int 0, .int 0, .int 0, .int 0, .int 0, .int 0, .int 0, .int 0, .v (.slice none 0 0)], .int 0, .int _]) _; exact Ent.tup (EntL.cons rc0_view (EntL.refl _)))).trans (TEnt.fin [] (by decide) (by simp) rfl ⟨by simp [AV.ren, renL, RcC_ren], trivial⟩))) | (rw [getR_4 (by assumption) (by assumption) (by assumption) (by assumption)]; exact ((TEnt.put1 0 (x' := .tup [.agg (RcC rc0), .int 0, .int 14]) (by show Ent _ (.tup [.agg [.int 0, .int 0, .int 0, .int 0, .int 0, .int 0, .int 0, .int 0, .int 0, .v (.slice none 0 0)], .int 0, .int _]) _; exact Ent.tup (EntL.cons rc0_view (EntL.refl _)))).trans (TEnt.fin [] (by decide) (by simp) rfl ⟨by simp [AV.ren, renL, RcC_ren], trivial⟩))) | (rw [getR_5 (by assumption) (by assumption) (by assumption) (by assumption) (by simpa using hc)]; exact ((TEnt.put1 0 (x' := .tup [.agg (RcC rc0), .int 0, .int 15]) (by show Ent _ (.tup [.agg [.int 0, .int 0, .int 0, .int 0, .int 0, .int 0, .int 0, .int 0, .int 0, .v (.slice none 0 0)], .int 0, .int _]) _; exact Ent.tup (EntL.cons rc0_view (EntL.refl _)))).trans (TEnt.fin [] (by decide) (by simp) rfl ⟨by simp [AV.ren, renL, RcC_ren], trivial⟩))) | (rw [getR_6 (by assumption) (by assumption) (by assumption) (by assumption) (by assumption) (by simp_all)]; exact ((TEnt.put1 0 (x' := .tup [.agg (RcC rc0), .int 0, .int 13]) (by show Ent _ (.tup [.agg [.int 0, .int 0, .int 0, .int 0, .int 0, .int 0, .int 0, .int 0, .int 0, .v (.slice none 0 0)], .int 0, .int _]) _; exact Ent.tup (EntL.cons rc0_view (EntL.refl _)))).trans (TEnt.fin [] (by decide) (by simp) rfl ⟨by simp [AV.ren, renL, RcC_ren], trivial⟩))) | (rw [getR_7 (by assumption) (by assumption) (by assumption) (by assumption) (by assumption) (by simp_all)]; exact TEnt.fin [] (by decide) (by simp) rfl ⟨by show AV.ren (pos []) (.tup [.agg (RcC (xr (gP l))), .int _, .int _]) = _; simp [AV.ren, renL, RcC_ren], trivial⟩)
       ·(try simp only [dE] at hc)
        refine T.skip ?_
        refine keepK hK21 [4, 5] (by dsimp) (by dsimp) ?_
        refine T.seq fun K25 hK25 => ?_
        refine T.region ?_
        refine rs rfl rfl (ok_load rfl ti_api_Rec rfl rfl) ?_
        refine rs rfl rfl (ok_move (.inl rfl)) ?_
        refine rs rfl rfl (ok_store rfl ti_api_Rec (by decide) rfl rfl rfl rfl rfl (by first | exact Nat.le_of_ble_eq_true rfl | simp) (by first | exact .inl ⟨rfl, rfl⟩ | exact .inr rfl)) ?_
        refine rs rfl rfl (ok_move (.inr rfl)) ?_
        refine rs rfl rfl (ok_move (.inr rfl)) ?_
        refine ro_nil ?_
        refine keepK hK25 [4, 5, 6] (by dsimp) (by dsimp) ?_
        refine T.ret (hQ _ _ _ rfl ?_).1 -- ret 8
        exact by first | (rw [getR_1 (by assumption)]; exact ((TEnt.put1 0 (x' := .tup [.agg (RcC rc0), .int 0, .int 1]) (by show Ent _ (.tup [.agg [.int 0, .int 0, .int 0, .int 0, .int 0, .int 0, .int 0, .int 0, .int 0, .v (.slice none 0 0)], .int 0, .int _]) _; exact Ent.tup (EntL.cons rc0_view (EntL.refl _)))).trans (TEnt.fin [] (by decide) (by simp) rfl ⟨by simp [AV.ren, renL, RcC_ren], trivial⟩))) | (rw [getR_2 (by assumption) (by omega)]; exact ((TEnt.put1 0 (x' := .tup [.agg (RcC rc0), .int 0, .int 14]) (by show Ent _ (.tup [.agg [.int 0, .int 0, .int 0, .int 0, .int 0, .int 0, .int 0, .int 0, .int 0, .v (.slice none 0 0)], .int 0, .int _]) _; exact Ent.tup (EntL.cons rc0_view (EntL.refl _)))).trans (TEnt.fin [] (by decide) (by simp) rfl ⟨by simp [AV.ren, renL, RcC_ren], trivial⟩))) | (rw [getR_3 (by assumption) (by assumption) (by assumption)]; exact ((TEnt.put1 0 (x' := .tup [.agg (RcC rc0), .int 0, .int 13]) (by show Ent _ (.tup [.agg [.int 0, .int 0, .int 0, .int 0, .int 0, .int 0, .int 0, .int 0, .int 0, .v (.slice none 0 0)], .int 0, .int _]) _; exact Ent.tup (EntL.cons rc0_view (EntL.refl _)))).trans (TEnt.fin [] (by decide) (by simp) rfl ⟨by simp [AV.ren, renL, RcC_ren], trivial⟩))) | (rw [getR_4 (by assumption) (by assumption) (by assumption) (by assumption)]; exact ((TEnt.put1 0 (x' := .tup [.agg (RcC rc0), .int 0, .int 14]) (by show Ent _ (.tup [.agg [.int 0, .int 0, .int 0, .int 0, .int 0, .int 0, .int 0, .int 0, .int 0, .v (.slice none 0 0)], .int 0, .int _]) _; exact Ent.tup (EntL.cons rc0_view (EntL.refl _)))).trans (TEnt.fin [] (by decide) (by simp) rfl ⟨by simp [AV.ren, renL, RcC_ren], trivial⟩))) | (rw [getR_5 (by assumption) (by assumption) (by assumption) (by assumption) (by simpa using hc)]; exact ((TEnt.put1 0 (x' := .tup [.agg (RcC rc0), .int 0, .int 15]) (by show Ent _ (.tup [.agg [.int 0, .int 0, .int 0, .int 0, .int 0, .int 0, .int 0, .int 0, .int 0, .v (.slice none 0 0)], .int 0, .int _]) _; exact Ent.tup (EntL.cons rc0_view (EntL.refl _)))).trans (TEnt.fin [] (by decide) (by simp) rfl ⟨by simp [AV.ren, renL, RcC_ren], trivial⟩))) | (rw [getR_6 (by assumption) (by assumption) (by assumption) (by assumption) (by assumption) (by simp_all)]; exact ((TEnt.put1 0 (x' := .tup [.agg (RcC rc0), .int 0, .int 13]) (by show Ent _ (.tup [.agg [.int 0, .int 0, .int 0, .int 0, .int 0, .int 0, .int 0, .int 0, .int 0, .v (.slice none 0 0)], .int 0, .int _]) _; exact Ent.tup (EntL.cons rc0_view (EntL.refl _)))).trans (TEnt.fin [] (by decide) (by simp) rfl ⟨by simp [AV.ren, renL, RcC_ren], trivial⟩))) | (rw [getR_7 (by assumption) (by assumption) (by assumption) (by assumption) (by assumption) (by simp_all)]; exact TEnt.fin [] (by decide) (by simp) rfl ⟨by show AV.ren (pos []) (.tup [.agg (RcC (xr (gP l))), .int _, .int _]) = _; simp [AV.ren, renL, RcC_ren], trivial⟩)

end Go.Proofs.YtjklgbafnfoolaaGreat.AmF
