/- Walks over the abstract machine: records of the log, as bytes. -/
import Derived.Test.YtjklgbafnfoolaaGScanAny8
namespace Go.Proofs.Ytjklgbafnfoolaa.AmF
open Go Go.AM
set_option maxRecDepth 100000
set_option linter.unusedSimpArgs false
set_option linter.unusedVariables false
attribute [local simp] tkeep tget tput ev cav argsTM pickA normT putA splice AV.cells ints_length rowsA_length enc_len
/-- Filled up to a multiple. -/
def padL (l : List Int) (u : Nat) : List Int := l ++ List.replicate ((u - l.length % u) % u) 0
theorem pad_none {l : List Int} {u : Nat} (h : l.length % u = 0) : padL l u = l := by simp [padL, h]
theorem pad_some {l : List Int} {u : Nat} (hu : 0 < u) (h : 0 < l.length % u) : padL l u = l ++ List.replicate (u - l.length % u) 0 := by
  have := Nat.mod_lt l.length hu
  unfold padL
  rw [Nat.mod_eq_of_lt (a := u - l.length % u) (by omega)]
theorem pad_new (l : List Int) (u : Nat) (hu : 1 ≤ u ∧ u ≤ 65536) (hl : l.length ≤ 100000000) : CSpec Try.prog 53 [] [.fz 1 (ints .u8 l), .int u] [some ⟨1, true, ints .u8 (padL l u)⟩] (.sl 0 0 (padL l u).length) := by
 obtain ⟨o, ho⟩ : ∃ o, l.length % u = o := ⟨_, rfl⟩
 have hou : o < u := ho ▸ Nat.mod_lt _ (by omega)
 refine CSpec.body Try.func53 rfl rfl rfl rfl rfl fun Q hQ => ?_
 refine T.seq fun K1 hK1 => ?_
 refine T.region ?_
 refine rs rfl rfl (ok_move (.inr rfl)) ?_
 refine ro_nil ?_
 refine keepK hK1 [0, 1] (by dsimp) (by dsimp) ?_
 refine T.seq fun K2 hK2 => ?_
 refine T.region ?_
 refine rs rfl rfl (ok_move (.inl rfl)) ?_
 refine rs rfl rfl ((ok_max rfl rfl rfl).eq (x' := .int u) (congrArg AV.int (by omega)) rfl) ?_
 refine rs rfl rfl ((ok_min rfl rfl rfl).eq (x' := .int u) (congrArg AV.int (by omega)) rfl) ?_
 refine rs rfl rfl (ok_move (.inr rfl)) ?_
 refine ro_nil ?_
 refine keepK hK2 [0, 1] (by dsimp) (by dsimp) ?_
 refine T.seq fun K3 hK3 => ?_
 refine T.region ?_
 refine rs rfl rfl (ok_move (.inl rfl)) ?_
 refine ro rfl rfl (ok_call rfl rfl rfl ((clone_new l (by omega)).fresh (x' := .sl 0 0 l.length) (H' := [some ⟨1, true, ints .u8 l⟩]) (by simp [renL, AV.ren, renL_ints]) rfl (by simp [renH, Blk.ren, renL_ints]))) ?_
 refine rs rfl rfl (ok_move (.inr rfl)) ?_
 refine ro_nil ?_
 refine keepK hK3 [1, 5] (by dsimp) (by dsimp) ?_
 refine T.seq fun K4 hK4 => ?_
 refine T.seq fun K5 hK5 => ?_
 refine T.region ?_
 refine rs rfl rfl (ok_move (.inl rfl)) ?_
 refine rs rfl rfl (ok_len' rfl rfl ti_Luint8 rfl (by first | exact ints_length _ _ | exact rowsA_length _ _ | exact Cms_len _ | exact mapLen _ | rfl)) ?_
 refine rs rfl rfl (ok_move (.inl rfl)) ?_
 refine rs rfl rfl ((ok_rem64 rfl ti_int rfl rfl (by omega) (by omega)).eq (x' := .int o) (congrArg AV.int (by rw [← ho]; simp)) rfl) ?_
 refine rs rfl rfl (ok_move (.inr rfl)) ?_
 refine ro_nil ?_
 refine keepK hK5 [1, 5, 6] (by dsimp) (by dsimp) ?_
 refine T.seq fun K6 hK6 => ?_
 refine T.region ?_
 refine rs rfl rfl (ok_move (.inl rfl)) ?_
 refine rs rfl rfl (ok_binOp rfl ti_int rfl) ?_
 refine ro_nil ?_
 refine keepK hK6 [1, 5, 6, 17] (by dsimp) (by dsimp) ?_
 refine T.cond rfl (fun hc => ?_) (fun hc => ?_) -- cond 1
 ·(try simp only [dE] at hc)
  have hp := pad_some (l := l) (u := u) (by omega) (by omega)
  rw [ho] at hp
  rw [hp] at hQ
  refine T.region ?_
  refine rs rfl rfl (ok_move (.inl rfl)) ?_
  refine rs rfl rfl (ok_move (.inl rfl)) ?_
  refine rs rfl rfl (ok_move (.inl rfl)) ?_
  refine rs rfl rfl ((ok_sub64 rfl ti_int rfl rfl (by omega) (by omega)).eq (x' := .int (u - o : Nat)) (congrArg AV.int (by omega)) rfl) ?_
  refine rs rfl rfl (by exact ok_append_zeros rfl ti_Luint8 rfl ti_uint8 (by decide) (by decide) rfl ti_int rfl rfl rfl rfl rfl rfl (by simp) (by simp; omega)) ?_
  refine rs rfl rfl (ok_move (.inr rfl)) ?_
  refine ro_nil ?_
  refine keepK hK4 [5] (by dsimp) (by dsimp) ?_
  refine T.seq fun K7 hK7 => ?_
  refine T.region ?_
  refine rs rfl rfl (ok_move (.inl rfl)) ?_
  refine rs rfl rfl (ok_move (.inr rfl)) ?_
  refine ro_nil ?_
  refine keepK hK7 [4] (by dsimp) (by dsimp) ?_
  refine T.ret (hQ _ _ _ rfl ?_).1 -- ret 1
  exact TEnt.fin [1] (by decide) (by simp) (by simp [normH, hget, Blk.ren, renL_ints, renL_map, ints, AV.ren]) ⟨by simp [tupA, AV.ren]; rfl, trivial⟩
 ·(try simp only [dE] at hc)
  rw [pad_none (by omega)] at hQ
  refine T.skip ?_
  refine keepK hK4 [5] (by dsimp) (by dsimp) ?_
  refine T.seq fun K8 hK8 => ?_
  refine T.region ?_
  refine rs rfl rfl (ok_move (.inl rfl)) ?_
  refine rs rfl rfl (ok_move (.inr rfl)) ?_
  refine ro_nil ?_
  refine keepK hK8 [4] (by dsimp) (by dsimp) ?_
  refine T.ret (hQ _ _ _ rfl ?_).1 -- ret 2
  exact TEnt.fin [0] (by decide) (by simp) (by simp [normH, hget, Blk.ren, renL_ints]) ⟨rfl, trivial⟩
def RNB (k : Nat) : Blk := ⟨1, true, [.ref k 0 1, .ref k 0 2, .ref k 0 3, .ref k 0 4, .ref k 0 6, .ref k 0 7, .ref k 0 8]⟩
def fidx (i : Nat) : Nat := if i < 4 then i + 1 else i + 2
theorem RNB_get {k i : Nat} (h : i < 7) : (RNB k).els[i]? = some (.ref k 0 (fidx i)) := by
  match i, h with
  | 0, _ | 1, _ | 2, _ | 3, _ | 4, _ | 5, _ | 6, _ => rfl
theorem seven_get {x : Rc} {i : Nat} {v : Int} (h : x.seven[i]? = some v) : (RcC x)[fidx i]? = some (.int v) := by
  have hi : i < 7 := (List.getElem?_eq_some_iff.1 h).1
  match i, hi with
  | 0, _ | 1, _ | 2, _ | 3, _ | 4, _ | 5, _ | 6, _ => simp [Rc.seven] at h; subst h; rfl
theorem rnum_new (x : Rc) : CSpec Try.prog 79 [RcB x] [.ref 0 0 0] [some (RcB x), some (RNB 0)] (.sl 1 0 7) := by
 refine CSpec.body Try.func79 rfl rfl rfl rfl rfl fun Q hQ => ?_
 refine T.seq fun K1 hK1 => ?_
 refine T.region ?_
 refine rs rfl rfl (ok_move (.inr rfl)) ?_
 refine ro_nil ?_
 refine keepK hK1 [0] (by dsimp) (by dsimp) ?_
 refine T.seq fun K2 hK2 => ?_
 refine T.drawH mixed [] ?_
 refine any_take 0 rfl (by first | rfl | decide +kernel) rfl (HeldL.refl _) (fun H' hH => OpOk.step (ok_move (.inl rfl))) ?_
 refine any_take 1 rfl (by first | rfl | decide +kernel) rfl (HeldL.refl _) (fun H' hH => OpOk.step (ok_nilCheck rfl rfl)) ?_
 refine any_take 2 rfl (by first | rfl | decide +kernel) rfl (HeldL.refl _) (fun H' hH => OpOk.step (ok_fieldAddr rfl ti_api_Rec rfl rfl ti_int (by decide) rfl)) ?_
 refine any_take 3 rfl (by first | rfl | decide +kernel) rfl (HeldL.refl _) (fun H' hH => OpOk.step (ok_move (.inl rfl))) ?_
 refine any_take 4 rfl (by first | rfl | decide +kernel) rfl (HeldL.refl _) (fun H' hH => OpOk.step (ok_nilCheck rfl rfl)) ?_
 refine any_take 5 rfl (by first | rfl | decide +kernel) rfl (HeldL.refl _) (fun H' hH => OpOk.step (ok_fieldAddr rfl ti_api_Rec rfl rfl ti_int (by decide) rfl)) ?_
 refine any_take 6 rfl (by first | rfl | decide +kernel) rfl (HeldL.refl _) (fun H' hH => OpOk.step (ok_move (.inl rfl))) ?_
 refine any_take 7 rfl (by first | rfl | decide +kernel) rfl (HeldL.refl _) (fun H' hH => OpOk.step (ok_nilCheck rfl rfl)) ?_
 refine any_take 8 rfl (by first | rfl | decide +kernel) rfl (HeldL.refl _) (fun H' hH => OpOk.step (ok_fieldAddr rfl ti_api_Rec rfl rfl ti_int (by decide) rfl)) ?_
 refine any_take 9 rfl (by first | rfl | decide +kernel) rfl (HeldL.refl _) (fun H' hH => OpOk.step (ok_move (.inl rfl))) ?_
 refine any_take 10 rfl (by first | rfl | decide +kernel) rfl (HeldL.refl _) (fun H' hH => OpOk.step (ok_nilCheck rfl rfl)) ?_
 refine any_take 11 rfl (by first | rfl | decide +kernel) rfl (HeldL.refl _) (fun H' hH => OpOk.step (ok_fieldAddr rfl ti_api_Rec rfl rfl ti_int (by decide) rfl)) ?_
 refine any_take 12 rfl (by first | rfl | decide +kernel) rfl (HeldL.refl _) (fun H' hH => OpOk.step (ok_move (.inl rfl))) ?_
 refine any_take 13 rfl (by first | rfl | decide +kernel) rfl (HeldL.refl _) (fun H' hH => OpOk.step (ok_nilCheck rfl rfl)) ?_
 refine any_take 14 rfl (by first | rfl | decide +kernel) rfl (HeldL.refl _) (fun H' hH => OpOk.step (ok_fieldAddr rfl ti_api_Rec rfl rfl ti_int (by decide) rfl)) ?_
 refine any_take 15 rfl (by first | rfl | decide +kernel) rfl (HeldL.refl _) (fun H' hH => OpOk.step (ok_move (.inl rfl))) ?_
 refine any_take 16 rfl (by first | rfl | decide +kernel) rfl (HeldL.refl _) (fun H' hH => OpOk.step (ok_nilCheck rfl rfl)) ?_
 refine any_take 17 rfl (by first | rfl | decide +kernel) rfl (HeldL.refl _) (fun H' hH => OpOk.step (ok_fieldAddr rfl ti_api_Rec rfl rfl ti_int (by decide) rfl)) ?_
 refine any_take 18 rfl (by first | rfl | decide +kernel) rfl (HeldL.refl _) (fun H' hH => OpOk.step (ok_move (.inl rfl))) ?_
 refine any_take 19 rfl (by first | rfl | decide +kernel) rfl (HeldL.refl _) (fun H' hH => OpOk.step (ok_nilCheck rfl rfl)) ?_
 refine any_take 20 rfl (by first | rfl | decide +kernel) rfl (HeldL.refl _) (fun H' hH => OpOk.step (ok_fieldAddr rfl ti_api_Rec rfl rfl ti_int (by decide) rfl)) ?_
 refine any_one 21 rfl (by first | rfl | decide +kernel) rfl rfl (OpOk.step (ok_buildSlice (n := 7) (ps := #[(0, .tmp 5), (1, .tmp 8), (2, .tmp 11), (3, .tmp 14), (4, .tmp 17), (5, .tmp 20), (6, .tmp 23)]) rfl ti_LPint rfl ti_Pint (by decide) rfl rfl (by decide) rfl rfl rfl)) (.inr (by first | (simp [HeldL]; done) | (simp only [dH]; (repeat' first | trivial | rfl | constructor)))) ?_
 refine any_take 22 rfl (by first | rfl | decide +kernel) rfl (by first | exact HeldL.refl _ | exact HeldL.append _ _ | simp [HeldL]) (fun H' hH => OpOk.step (ok_move (.inr rfl))) ?_
 refine any_done rfl ?_
 refine keepK hK2 [2] (by dsimp) (by dsimp) ?_
 refine T.ret (hQ _ _ _ rfl ?_).1 -- ret 1
 exact TEnt.fin [0, 1] (by decide) (by simp) (by simp [normH, hget, RcB_ren]; rfl) ⟨rfl, trivial⟩
/-- Which records may be. -/
def PR (x : Rc) : Prop := (0 ≤ x.kind ∧ x.kind ≤ 6) ∧ (0 ≤ x.epoch ∧ x.epoch ≤ 1099511627776) ∧ (0 ≤ x.seq ∧ x.seq ≤ 1099511627776) ∧ (0 ≤ x.zone ∧ x.zone ≤ 1099511627776) ∧ (0 ≤ x.gen ∧ x.gen ≤ 1099511627776) ∧ (-1 ≤ x.slot ∧ x.slot ≤ 1099511627776) ∧ (0 ≤ x.w ∧ x.w ≤ 1099511627776) ∧ (0 ≤ x.member ∧ x.member ≤ 1099511627776) ∧ (0 ≤ x.status ∧ x.status ≤ 1099511627776) ∧ x.body.length ≤ 1048576
instance (x : Rc) : Decidable (PR x) := by unfold PR; infer_instance
theorem PR_seven {x : Rc} {i : Nat} {v : Int} (h : x.seven[i]? = some v) (hp : PR x) : 0 ≤ v ∧ v ≤ 1099511627776 := by
  have hi : i < 7 := (List.getElem?_eq_some_iff.1 h).1
  unfold PR at hp
  match i, hi with
  | 0, _ | 1, _ | 2, _ | 3, _ | 4, _ | 5, _ | 6, _ => simp [Rc.seven] at h; subst h; omega
theorem PR_nine {x : Rc} {i : Nat} {v : Int} (h : x.l[i]? = some v) (hp : PR x) : v ≤ 1099511627776 ∧ (0 ≤ v ∨ i = 5) := by
  have hi : i < 9 := (List.getElem?_eq_some_iff.1 h).1
  unfold PR at hp
  match i, hi with
  | 0, _ | 1, _ | 2, _ | 3, _ | 4, _ | 5, _ | 6, _ | 7, _ | 8, _ => simp [Rc.l] at h; subst h; omega
theorem right_ok (x : Rc) (hb : x.body.length ≤ 140737488355328) : CSpec Try.prog 51 [] [.agg (RcC x)] [] (.b (decide (PR x))) := by
 refine CSpec.body Try.func51 rfl rfl rfl rfl rfl fun Q hQ => ?_
 refine T.seq fun K1 hK1 => ?_
 refine T.region ?_
 refine rs rfl rfl (ok_box (n := 10) rfl rfl (by decide)) ?_
 refine rs rfl rfl (ok_moveb (c := false) (.inr rfl) rfl) ?_
 refine ro_nil ?_
 refine keepK hK1 [1] (by dsimp) (by dsimp) ?_
 refine T.seq fun K2 hK2 => ?_
 refine T.seq fun K3 hK3 => ?_
 refine T.region ?_
 refine ro rfl rfl (ok_call rfl rfl rfl (((rnum_new x).pass [0] (by decide) (by simp) (by simp [normH, hget]; exact RcB_ren _ _) rfl).eq (x' := .sl 1 0 7) (H'' := [some (RcB x), some (RNB 0)]) rfl (by simp [mergeH, setIds, renH, RcB_ren]; rfl))) ?_
 refine rs rfl rfl (ok_len' rfl rfl ti_LPint rfl (by first | exact ints_length _ _ | exact rowsA_length _ _ | exact Cms_len _ | exact mapLen _ | rfl)) ?_
 refine rs rfl rfl (ok_move (.inl rfl)) ?_
 refine ro_nil ?_
 refine keepK hK3 [1, 5, 6, 7] (by dsimp) (by dsimp) ?_
 refine T.block ?_
 refine T.loopI (ι := Nat) (fun i => i ≤ 7 ∧ ∀ j, j < i → ∀ v, x.seven[j]? = some v → 0 ≤ v ∧ v ≤ 1099511627776) (fun i => 7 - i) (fun i => ([(1, .ref 0 0 0), (5, .sl 1 0 7), (6, .int 7), (7, .int i)], [some (RcB x), some (RNB 0)])) 0 ⟨Nat.zero_le _, fun j hj => absurd hj (Nat.not_lt_zero _)⟩ (TEnt.toH rfl ⟨rfl, rfl, rfl, rfl, trivial⟩) (fun i hi => ?_) -- loop 1
 obtain ⟨hi, hall⟩ := hi
 refine T.seq fun K4 hK4 => ?_
 refine T.region ?_
 refine rs rfl rfl (ok_binOp rfl ti_int rfl) ?_
 refine ro_nil ?_
 refine keepK hK4 [1, 5, 6, 7, 8] (by dsimp) (by dsimp) ?_
 refine T.seq fun K5 hK5 => ?_
 refine T.cond rfl (fun hc => ?_) (fun hc => ?_) -- cond 1
 ·(try simp only [dE] at hc)
  have hi7 : i < 7 := by omega
  obtain ⟨v, hv⟩ : ∃ v, x.seven[i]? = some v := ⟨_, List.getElem?_eq_getElem (by simp [Rc.seven]; omega)⟩
  have hvR := seven_get hv
  have hbad := PR_seven hv
  refine T.skip ?_
  refine keepK hK5 [1, 5, 6, 7] (by dsimp) (by dsimp) ?_
  refine T.seq fun K6 hK6 => ?_
  refine T.block ?_
  refine T.seq fun K7 hK7 => ?_
  refine T.region ?_
  refine rs rfl rfl (by exact ok_index_sl rfl ti_LPint rfl ti_Pint rfl rfl rfl rfl (by omega) (by omega)) ?_
  refine rs rfl rfl (by exact ok_load rfl ti_Pint (cl := [.ref 0 0 (fidx i)]) (f := 0) (by show locA [some (RcB x), some (RNB 0)] (.ref 1 (0 + ((i : Nat) : Int).toNat) 0) = _; simp [locA, hget, RNB_get hi7, AV.cells]) rfl) ?_
  refine rs rfl rfl (ok_move (.inr rfl)) ?_
  refine ro_nil ?_
  refine keepK hK7 [1, 4, 5, 6, 7] (by dsimp) (by dsimp) ?_
  refine T.seq fun K8 hK8 => ?_
  refine T.region ?_
  refine rs rfl rfl (ok_move (.inl rfl)) ?_
  refine rs rfl rfl (ok_nilCheck rfl rfl) ?_
  refine rs rfl rfl (by exact ok_load rfl ti_int (cl := RcC x) (f := fidx i) rfl hvR) ?_
  refine rs rfl rfl (ok_binOp rfl ti_int rfl) ?_
  refine ro_case rfl rfl (OpOk.step (ok_moveb (.inl rfl) rfl)) (fun hb => ?_) (fun hb => ?_)
  ·(try simp only [dE] at hb)
   refine ro_skip rfl rfl ?_
   refine ro_skip rfl rfl ?_
   refine ro_skip rfl rfl ?_
   refine ro_skip rfl rfl ?_
   refine rs rfl rfl (ok_pickb (t := true) (d := true) rfl rfl rfl) ?_
   refine ro_nil ?_
   refine keepK hK8 [1, 5, 6, 7, 20] (by dsimp) (by dsimp) ?_
   refine T.cond_true rfl ?_
   refine T.seq fun K9 hK9 => ?_
   refine T.region ?_
   refine rs rfl rfl (ok_moveb (c := false) (.inr rfl) rfl) ?_
   refine ro_nil ?_
   refine keepK hK9 [2] (by dsimp) (by dsimp) ?_
   refine T.ret (hQ _ _ _ rfl ?_).1 -- ret 1
   exact by first | (rw [decide_eq_false (fun h => by have := hbad h; omega)]; exact TEnt.fin [] (by decide) (by simp) rfl ⟨rfl, trivial⟩) | (rw [decide_eq_false (by unfold PR; omega)]; exact TEnt.fin [] (by decide) (by simp) rfl ⟨rfl, trivial⟩) | (have e : decide (PR x) = decide ((x.body.length : Int) ≤ 1048576) := (by rw [decide_eq_decide]; unfold PR; omega); rw [e]; exact TEnt.fin [] (by decide) (by simp) rfl ⟨rfl, trivial⟩)
  ·(try simp only [dE] at hb)
   refine rs rfl rfl (ok_move (.inl rfl)) ?_
   refine rs rfl rfl (ok_nilCheck rfl rfl) ?_
   refine rs rfl rfl (by exact ok_load rfl ti_int (cl := RcC x) (f := fidx i) rfl hvR) ?_
   refine rs rfl rfl (ok_binOp rfl ti_int rfl) ?_
   refine rs rfl rfl (ok_pick rfl rfl) ?_
   refine ro_nil ?_
   refine keepK hK8 [1, 5, 6, 7, 20] (by dsimp) (by dsimp) ?_
   refine T.cond rfl (fun hc => ?_) (fun hc => ?_) -- cond 2
   ·(try simp only [dE] at hc)
    refine T.seq fun K10 hK10 => ?_
    refine T.region ?_
    refine rs rfl rfl (ok_moveb (c := false) (.inr rfl) rfl) ?_
    refine ro_nil ?_
    refine keepK hK10 [2] (by dsimp) (by dsimp) ?_
    refine T.ret (hQ _ _ _ rfl ?_).1 -- ret 2
    exact by first | (rw [decide_eq_false (fun h => by have := hbad h; omega)]; exact TEnt.fin [] (by decide) (by simp) rfl ⟨rfl, trivial⟩) | (rw [decide_eq_false (by unfold PR; omega)]; exact TEnt.fin [] (by decide) (by simp) rfl ⟨rfl, trivial⟩) | (have e : decide (PR x) = decide ((x.body.length : Int) ≤ 1048576) := (by rw [decide_eq_decide]; unfold PR; omega); rw [e]; exact TEnt.fin [] (by decide) (by simp) rfl ⟨rfl, trivial⟩)
   ·(try simp only [dE] at hc)
    refine T.skip ?_
    refine keepK hK6 [1, 5, 6, 7] (by dsimp) (by dsimp) ?_
    refine T.region ?_
    refine rs rfl rfl (ok_add64 rfl ti_int rfl rfl (by omega) (by omega)) ?_
    refine rs rfl rfl (ok_move (.inl rfl)) ?_
    refine ro_nil ?_
    exact ⟨i + 1, ⟨by omega, fun j hj u hu => by
      rcases Nat.lt_or_ge j i with h | h
      · exact hall j h u hu
      · obtain rfl : j = i := by omega
        rw [hv] at hu
        cases hu
        omega⟩, by omega, TEnt.toH rfl ⟨rfl, rfl, rfl, rfl, trivial⟩⟩
 ·(try simp only [dE] at hc)
  have hi7 : i = 7 := by omega
  subst hi7
  have a0 := hall 0 (by decide) _ rfl
  have a1 := hall 1 (by decide) _ rfl
  have a2 := hall 2 (by decide) _ rfl
  have a3 := hall 3 (by decide) _ rfl
  have a4 := hall 4 (by decide) _ rfl
  have a5 := hall 5 (by decide) _ rfl
  have a6 := hall 6 (by decide) _ rfl
  clear hall
  refine T.exit ?_
  refine keepK hK2 [1] (by dsimp) (by dsimp) ?_
  refine T.seq fun K11 hK11 => ?_
  refine T.region ?_
  refine rs rfl rfl (ok_fieldAddr rfl ti_api_Rec rfl rfl ti_int (by decide) rfl) ?_
  refine rs rfl rfl (ok_load rfl ti_int rfl rfl) ?_
  refine rs rfl rfl (ok_binOp rfl ti_int rfl) ?_
  refine ro_case rfl rfl (OpOk.step (ok_moveb (.inl rfl) rfl)) (fun hb => ?_) (fun hb => ?_)
  ·(try simp only [dE] at hb)
   refine rs rfl rfl (ok_fieldAddr rfl ti_api_Rec rfl rfl ti_int (by decide) rfl) ?_
   refine rs rfl rfl (ok_load rfl ti_int rfl rfl) ?_
   refine rs rfl rfl (ok_binOp rfl ti_int rfl) ?_
   refine rs rfl rfl (ok_pick rfl rfl) ?_
   refine ro_case rfl rfl (OpOk.step (ok_moveb (.inl rfl) rfl)) (fun hb => ?_) (fun hb => ?_)
   ·(try simp only [dE] at hb)
    refine rs rfl rfl (ok_fieldAddr rfl ti_api_Rec rfl rfl ti_int (by decide) rfl) ?_
    refine rs rfl rfl (ok_load rfl ti_int rfl rfl) ?_
    refine rs rfl rfl (ok_binOp rfl ti_int rfl) ?_
    refine rs rfl rfl (ok_pick rfl rfl) ?_
    refine ro_case rfl rfl (OpOk.step (ok_moveb (.inl rfl) rfl)) (fun hb => ?_) (fun hb => ?_)
    ·(try simp only [dE] at hb)
     refine rs rfl rfl (ok_fieldAddr rfl ti_api_Rec rfl rfl ti_int (by decide) rfl) ?_
     refine rs rfl rfl (ok_load rfl ti_int rfl rfl) ?_
     refine rs rfl rfl (ok_binOp rfl ti_int rfl) ?_
     refine rs rfl rfl (ok_pick rfl rfl) ?_
     refine ro_case rfl rfl (OpOk.step (ok_moveb (.inl rfl) rfl)) (fun hb => ?_) (fun hb => ?_)
     ·(try simp only [dE] at hb)
      refine rs rfl rfl (ok_fieldAddr rfl ti_api_Rec rfl rfl ti_Luint8 (by decide) rfl) ?_
      refine rs rfl rfl (ok_load rfl ti_Luint8 rfl rfl) ?_
      refine rs rfl rfl (ok_len' rfl rfl ti_Luint8 rfl (by first | exact ints_length _ _ | exact rowsA_length _ _ | exact Cms_len _ | exact mapLen _ | rfl)) ?_
      refine rs rfl rfl (ok_binOp rfl ti_int rfl) ?_
      refine rs rfl rfl (ok_pick rfl rfl) ?_
      refine rs rfl rfl (ok_move (.inr rfl)) ?_
      refine ro_nil ?_
      refine keepK hK11 [2] (by dsimp) (by dsimp) ?_
      refine T.ret (hQ _ _ _ rfl ?_).1 -- ret 3
      exact by first | (rw [decide_eq_false (fun h => by have := hbad h; omega)]; exact TEnt.fin [] (by decide) (by simp) rfl ⟨rfl, trivial⟩) | (rw [decide_eq_false (by unfold PR; omega)]; exact TEnt.fin [] (by decide) (by simp) rfl ⟨rfl, trivial⟩) | (have e : decide (PR x) = decide ((x.body.length : Int) ≤ 1048576) := (by rw [decide_eq_decide]; unfold PR; omega); rw [e]; exact TEnt.fin [] (by decide) (by simp) rfl ⟨rfl, trivial⟩)
     ·(try simp only [dE] at hb)
      refine ro_skip rfl rfl ?_
      refine ro_skip rfl rfl ?_
      refine ro_skip rfl rfl ?_
      refine ro_skip rfl rfl ?_
      refine rs rfl rfl (ok_pickb (t := false) (d := false) rfl rfl rfl) ?_
      refine rs rfl rfl (ok_moveb (c := false) (.inr rfl) rfl) ?_
      refine ro_nil ?_
      refine keepK hK11 [2] (by dsimp) (by dsimp) ?_
      refine T.ret (hQ _ _ _ rfl ?_).1 -- ret 4
      exact by first | (rw [decide_eq_false (fun h => by have := hbad h; omega)]; exact TEnt.fin [] (by decide) (by simp) rfl ⟨rfl, trivial⟩) | (rw [decide_eq_false (by unfold PR; omega)]; exact TEnt.fin [] (by decide) (by simp) rfl ⟨rfl, trivial⟩) | (have e : decide (PR x) = decide ((x.body.length : Int) ≤ 1048576) := (by rw [decide_eq_decide]; unfold PR; omega); rw [e]; exact TEnt.fin [] (by decide) (by simp) rfl ⟨rfl, trivial⟩)
    ·(try simp only [dE] at hb)
     refine ro_skip rfl rfl ?_
     refine ro_skip rfl rfl ?_
     refine ro_skip rfl rfl ?_
     refine rs rfl rfl (ok_pickb (t := false) (d := false) rfl rfl rfl) ?_
     refine rs rfl rfl (ok_moveb (c := false) (.inl rfl) rfl) ?_
     refine ro_skip rfl rfl ?_
     refine ro_skip rfl rfl ?_
     refine ro_skip rfl rfl ?_
     refine ro_skip rfl rfl ?_
     refine rs rfl rfl (ok_pickb (t := false) (d := false) rfl rfl rfl) ?_
     refine rs rfl rfl (ok_moveb (c := false) (.inr rfl) rfl) ?_
     refine ro_nil ?_
     refine keepK hK11 [2] (by dsimp) (by dsimp) ?_
     refine T.ret (hQ _ _ _ rfl ?_).1 -- ret 5
     exact by first | (rw [decide_eq_false (fun h => by have := hbad h; omega)]; exact TEnt.fin [] (by decide) (by simp) rfl ⟨rfl, trivial⟩) | (rw [decide_eq_false (by unfold PR; omega)]; exact TEnt.fin [] (by decide) (by simp) rfl ⟨rfl, trivial⟩) | (have e : decide (PR x) = decide ((x.body.length : Int) ≤ 1048576) := (by rw [decide_eq_decide]; unfold PR; omega); rw [e]; exact TEnt.fin [] (by decide) (by simp) rfl ⟨rfl, trivial⟩)
   ·(try simp only [dE] at hb)
    refine ro_skip rfl rfl ?_
    refine ro_skip rfl rfl ?_
    refine ro_skip rfl rfl ?_
    refine rs rfl rfl (ok_pickb (t := false) (d := false) rfl rfl rfl) ?_
    refine rs rfl rfl (ok_moveb (c := false) (.inl rfl) rfl) ?_
    refine ro_skip rfl rfl ?_
    refine ro_skip rfl rfl ?_
    refine ro_skip rfl rfl ?_
    refine rs rfl rfl (ok_pickb (t := false) (d := false) rfl rfl rfl) ?_
    refine rs rfl rfl (ok_moveb (c := false) (.inl rfl) rfl) ?_
    refine ro_skip rfl rfl ?_
    refine ro_skip rfl rfl ?_
    refine ro_skip rfl rfl ?_
    refine ro_skip rfl rfl ?_
    refine rs rfl rfl (ok_pickb (t := false) (d := false) rfl rfl rfl) ?_
    refine rs rfl rfl (ok_moveb (c := false) (.inr rfl) rfl) ?_
    refine ro_nil ?_
    refine keepK hK11 [2] (by dsimp) (by dsimp) ?_
    refine T.ret (hQ _ _ _ rfl ?_).1 -- ret 6
    exact by first | (rw [decide_eq_false (fun h => by have := hbad h; omega)]; exact TEnt.fin [] (by decide) (by simp) rfl ⟨rfl, trivial⟩) | (rw [decide_eq_false (by unfold PR; omega)]; exact TEnt.fin [] (by decide) (by simp) rfl ⟨rfl, trivial⟩) | (have e : decide (PR x) = decide ((x.body.length : Int) ≤ 1048576) := (by rw [decide_eq_decide]; unfold PR; omega); rw [e]; exact TEnt.fin [] (by decide) (by simp) rfl ⟨rfl, trivial⟩)
  ·(try simp only [dE] at hb)
   refine ro_skip rfl rfl ?_
   refine ro_skip rfl rfl ?_
   refine ro_skip rfl rfl ?_
   refine rs rfl rfl (ok_pickb (t := false) (d := false) rfl rfl rfl) ?_
   refine rs rfl rfl (ok_moveb (c := false) (.inl rfl) rfl) ?_
   refine ro_skip rfl rfl ?_
   refine ro_skip rfl rfl ?_
   refine ro_skip rfl rfl ?_
   refine rs rfl rfl (ok_pickb (t := false) (d := false) rfl rfl rfl) ?_
   refine rs rfl rfl (ok_moveb (c := false) (.inl rfl) rfl) ?_
   refine ro_skip rfl rfl ?_
   refine ro_skip rfl rfl ?_
   refine ro_skip rfl rfl ?_
   refine rs rfl rfl (ok_pickb (t := false) (d := false) rfl rfl rfl) ?_
   refine rs rfl rfl (ok_moveb (c := false) (.inl rfl) rfl) ?_
   refine ro_skip rfl rfl ?_
   refine ro_skip rfl rfl ?_
   refine ro_skip rfl rfl ?_
   refine ro_skip rfl rfl ?_
   refine rs rfl rfl (ok_pickb (t := false) (d := false) rfl rfl rfl) ?_
   refine rs rfl rfl (ok_moveb (c := false) (.inr rfl) rfl) ?_
   refine ro_nil ?_
   refine keepK hK11 [2] (by dsimp) (by dsimp) ?_
   refine T.ret (hQ _ _ _ rfl ?_).1 -- ret 7
   exact by first | (rw [decide_eq_false (fun h => by have := hbad h; omega)]; exact TEnt.fin [] (by decide) (by simp) rfl ⟨rfl, trivial⟩) | (rw [decide_eq_false (by unfold PR; omega)]; exact TEnt.fin [] (by decide) (by simp) rfl ⟨rfl, trivial⟩) | (have e : decide (PR x) = decide ((x.body.length : Int) ≤ 1048576) := (by rw [decide_eq_decide]; unfold PR; omega); rw [e]; exact TEnt.fin [] (by decide) (by simp) rfl ⟨rfl, trivial⟩)

def payR (x : Rc) : List Int := (encs x.l ++ enc x.body.length 8) ++ x.body
theorem payR_len (x : Rc) : (payR x).length = 80 + x.body.length := by
  have : (encs x.l).length = 72 := by rw [encs_len]; rfl
  simp [payR, this]; omega
theorem payR_bytes {x : Rc} (h : Bytes x.body) : Bytes (payR x) := ((encs_bytes _).append (enc_bytes _ _)).append h
theorem payload_ok (x : Rc) (hb : x.body.length ≤ 1048576) : CSpec Try.prog 52 [] [.agg (RcC x)] [] (.fz 1 (ints .u8 (payR x))) := by
 obtain ⟨L, hL⟩ : ∃ L, x.l = L := ⟨_, rfl⟩
 have hLl : L.length = 9 := by rw [← hL]; rfl
 have hpl : payR x = (encs L ++ enc x.body.length 8) ++ x.body := by rw [← hL]; rfl
 have hel : ∀ i, (encs (L.take i)).length ≤ 72 := fun i => by rw [encs_len, List.length_take]; omega
 rw [hpl]
 refine CSpec.body Try.func52 rfl rfl rfl rfl rfl fun Q hQ => ?_
 refine T.seq fun K1 hK1 => ?_
 refine T.region ?_
 refine rs rfl rfl (ok_box (n := 10) rfl rfl (by decide)) ?_
 refine rs rfl rfl (ok_move (.inr rfl)) ?_
 refine ro_nil ?_
 refine keepK hK1 [1] (by dsimp) (by dsimp) ?_
 refine T.seq fun K2 hK2 => ?_
 refine T.region ?_
 refine rs rfl rfl (ok_move (.inr rfl)) ?_
 refine ro_nil ?_
 refine keepK hK2 [1, 3] (by dsimp) (by dsimp) ?_
 refine T.seq fun K3 hK3 => ?_
 refine T.seq fun K4 hK4 => ?_
 refine T.region ?_
 refine rs rfl rfl (ok_fieldAddr rfl ti_api_Rec rfl rfl ti_int (by decide) rfl) ?_
 refine rs rfl rfl (ok_load rfl ti_int rfl rfl) ?_
 refine rs rfl rfl (ok_fieldAddr rfl ti_api_Rec rfl rfl ti_int (by decide) rfl) ?_
 refine rs rfl rfl (ok_load rfl ti_int rfl rfl) ?_
 refine rs rfl rfl (ok_fieldAddr rfl ti_api_Rec rfl rfl ti_int (by decide) rfl) ?_
 refine rs rfl rfl (ok_load rfl ti_int rfl rfl) ?_
 refine rs rfl rfl (ok_fieldAddr rfl ti_api_Rec rfl rfl ti_int (by decide) rfl) ?_
 refine rs rfl rfl (ok_load rfl ti_int rfl rfl) ?_
 refine rs rfl rfl (ok_fieldAddr rfl ti_api_Rec rfl rfl ti_int (by decide) rfl) ?_
 refine rs rfl rfl (ok_load rfl ti_int rfl rfl) ?_
 refine rs rfl rfl (ok_fieldAddr rfl ti_api_Rec rfl rfl ti_int (by decide) rfl) ?_
 refine rs rfl rfl (ok_load rfl ti_int rfl rfl) ?_
 refine rs rfl rfl (ok_fieldAddr rfl ti_api_Rec rfl rfl ti_int (by decide) rfl) ?_
 refine rs rfl rfl (ok_load rfl ti_int rfl rfl) ?_
 refine rs rfl rfl (ok_fieldAddr rfl ti_api_Rec rfl rfl ti_int (by decide) rfl) ?_
 refine rs rfl rfl (ok_load rfl ti_int rfl rfl) ?_
 refine rs rfl rfl (ok_fieldAddr rfl ti_api_Rec rfl rfl ti_int (by decide) rfl) ?_
 refine rs rfl rfl (ok_load rfl ti_int rfl rfl) ?_
 refine rs rfl rfl ((ok_buildSlice (n := 9) (ps := #[(0, .tmp 7), (1, .tmp 9), (2, .tmp 11), (3, .tmp 13), (4, .tmp 15), (5, .tmp 17), (6, .tmp 19), (7, .tmp 21), (8, .tmp 23)]) rfl ti_Lint rfl ti_int (by decide) rfl rfl (by decide) rfl rfl rfl).eq (x' := .sl 1 0 9) (H'' := [some (RcB x), some ⟨1, true, ints .i64 L⟩]) rfl (by rw [← hL]; rfl)) ?_
 refine rs rfl rfl (ok_len' rfl rfl ti_Lint rfl (by first | exact ints_length _ _ | exact rowsA_length _ _ | exact Cms_len _ | exact mapLen _ | rfl)) ?_
 refine rs rfl rfl (ok_move (.inl rfl)) ?_
 refine ro_nil ?_
 refine keepK hK4 [1, 3, 24, 25, 26] (by dsimp) (by dsimp) ?_
 refine T.block ?_
 refine T.loopI (ι := Nat) (fun i => i ≤ 9) (fun i => 9 - i) (fun i => ([(1, .ref 0 0 0), (3, .fz 1 (ints .u8 (encs (L.take i)))), (24, .sl 1 0 9), (25, .int 9), (26, .int i)], [some (RcB x), some ⟨1, true, ints .i64 L⟩])) 0 (Nat.zero_le _) ((TEnt.put1 3 (Ent.nil 1)).trans (TEnt.toH rfl ⟨rfl, rfl, rfl, rfl, rfl, trivial⟩)) (fun i hi => ?_) -- loop 1
 refine T.seq fun K5 hK5 => ?_
 refine T.region ?_
 refine rs rfl rfl (ok_binOp rfl ti_int rfl) ?_
 refine ro_nil ?_
 refine keepK hK5 [1, 3, 24, 25, 26, 27] (by dsimp) (by dsimp) ?_
 refine T.seq fun K6 hK6 => ?_
 refine T.cond rfl (fun hc => ?_) (fun hc => ?_) -- cond 1
 ·(try simp only [dE] at hc)
  have hi9 : i < 9 := by omega
  obtain ⟨v, hv⟩ : ∃ v, L[i]? = some v := ⟨_, List.getElem?_eq_getElem (by omega)⟩
  have htk : encs (L.take i) ++ enc v 8 = encs (L.take (i + 1)) := by rw [take_succ_get hv, encs_snoc]
  have hel' := hel i
  refine T.skip ?_
  refine keepK hK6 [1, 3, 24, 25, 26] (by dsimp) (by dsimp) ?_
  refine T.seq fun K7 hK7 => ?_
  refine T.block ?_
  refine T.seq fun K8 hK8 => ?_
  refine T.region ?_
  refine rs rfl rfl (by exact ok_index_sl rfl ti_Lint rfl ti_int rfl rfl rfl rfl (by omega) (by omega)) ?_
  refine rs rfl rfl (by exact ok_load_ints rfl ti_int rfl rfl rfl rfl (by simpa using hv)) ?_
  refine rs rfl rfl (ok_move (.inr rfl)) ?_
  refine ro_nil ?_
  refine keepK hK8 [1, 3, 5, 24, 25, 26] (by dsimp) (by dsimp) ?_
  refine T.region ?_
  refine rs rfl rfl (ok_move (.inl rfl)) ?_
  refine rs rfl rfl (ok_move (.inl rfl)) ?_
  refine ro rfl rfl (ok_call rfl rfl rfl ((pkint_frz htk (by omega)).plain (by simp [renL, AV.ren, renL_ints]) (by simp [AV.ren, renL_ints]))) ?_
  refine rs rfl rfl (ok_move (.inr rfl)) ?_
  refine ro_nil ?_
  refine keepK hK7 [1, 3, 24, 25, 26] (by dsimp) (by dsimp) ?_
  refine T.region ?_
  refine rs rfl rfl (ok_add64 rfl ti_int rfl rfl (by omega) (by omega)) ?_
  refine rs rfl rfl (ok_move (.inl rfl)) ?_
  refine ro_nil ?_
  exact ⟨i + 1, by omega, by omega, TEnt.toH rfl ⟨rfl, rfl, rfl, rfl, rfl, trivial⟩⟩
 ·(try simp only [dE] at hc)
  have hi9 : i = 9 := by omega
  subst hi9
  have hel' := hel 9
  rw [List.take_of_length_le (by omega)] at hel' ⊢
  refine T.exit ?_
  refine keepK hK3 [1, 3] (by dsimp) (by dsimp) ?_
  refine T.seq fun K9 hK9 => ?_
  refine T.region ?_
  refine rs rfl rfl (ok_move (.inl rfl)) ?_
  refine rs rfl rfl (ok_fieldAddr rfl ti_api_Rec rfl rfl ti_Luint8 (by decide) rfl) ?_
  refine rs rfl rfl (ok_load rfl ti_Luint8 rfl rfl) ?_
  refine ro rfl rfl (ok_call rfl rfl rfl ((pkbytes_frz (l := encs L) rfl (by omega) hb).plain (by simp [renL, AV.ren, renL_ints]) (by simp [AV.ren, renL_ints]))) ?_
  refine rs rfl rfl (ok_move (.inr rfl)) ?_
  refine ro_nil ?_
  refine keepK hK9 [2] (by dsimp) (by dsimp) ?_
  refine T.ret (hQ _ _ _ rfl ?_).1 -- ret 1
  exact TEnt.fin [] (by decide) (by simp) rfl ⟨by simp [tupA, AV.ren, renL_ints], trivial⟩
theorem fits_ok (b : Int) : CSpec Try.prog 28 [] [.int b] [] (.b (decide (1 ≤ b ∧ b ≤ 4096))) := by
 refine CSpec.body Try.func28 rfl rfl rfl rfl rfl fun Q hQ => ?_
 refine T.seq fun K1 hK1 => ?_
 refine T.region ?_
 refine rs rfl rfl (ok_moveb (c := false) (.inr rfl) rfl) ?_
 refine ro_nil ?_
 refine keepK hK1 [0] (by dsimp) (by dsimp) ?_
 refine T.seq fun K2 hK2 => ?_
 refine T.region ?_
 refine rs rfl rfl (ok_move (.inl rfl)) ?_
 refine rs rfl rfl (ok_binOp rfl ti_int rfl) ?_
 refine ro_case rfl rfl (OpOk.step (ok_moveb (.inl rfl) rfl)) (fun hb => ?_) (fun hb => ?_)
 ·(try simp only [dE] at hb)
  refine rs rfl rfl (ok_move (.inl rfl)) ?_
  refine rs rfl rfl (ok_binOp rfl ti_int rfl) ?_
  refine rs rfl rfl (ok_pick rfl rfl) ?_
  refine rs rfl rfl (ok_move (.inr rfl)) ?_
  refine ro_nil ?_
  refine keepK hK2 [2] (by dsimp) (by dsimp) ?_
  refine T.ret (hQ _ _ _ rfl ?_).1 -- ret 1
  exact by first | (rw [decide_eq_false (by omega)]; exact TEnt.toH rfl ⟨rfl, trivial⟩) | (have e : decide (1 ≤ b ∧ b ≤ 4096) = decide (b ≤ 4096) := (by rw [decide_eq_decide]; omega); rw [e]; exact TEnt.toH rfl ⟨rfl, trivial⟩)
 ·(try simp only [dE] at hb)
  refine ro_skip rfl rfl ?_
  refine ro_skip rfl rfl ?_
  refine rs rfl rfl (ok_pickb (t := false) (d := false) rfl rfl rfl) ?_
  refine rs rfl rfl (ok_moveb (c := false) (.inr rfl) rfl) ?_
  refine ro_nil ?_
  refine keepK hK2 [2] (by dsimp) (by dsimp) ?_
  refine T.ret (hQ _ _ _ rfl ?_).1 -- ret 2
  exact by first | (rw [decide_eq_false (by omega)]; exact TEnt.toH rfl ⟨rfl, trivial⟩) | (have e : decide (1 ≤ b ∧ b ≤ 4096) = decide (b ≤ 4096) := (by rw [decide_eq_decide]; omega); rw [e]; exact TEnt.toH rfl ⟨rfl, trivial⟩)
def crcV (l : List Int) : Int := 4294967295 - l.foldl step 4294967295
theorem crcV_bd (l : List Int) : 0 ≤ crcV l ∧ crcV l ≤ 4294967295 := by
  have := fold_u l 4294967295 ⟨by omega, by omega⟩
  unfold crcV
  unfold U32 at this
  omega
theorem crcOf_ok {l : List Int} (hb : Bytes l) (hl : l.length ≤ 140737488355328) : CSpec Try.prog 32 [] [.fz 1 (ints .u8 l)] [] (.v (.int .u32 (crcV l))) := crc_of l hb hl
theorem refOf_ok {l : List Int} (hb : Bytes l) (hl : l.length ≤ 140737488355328) : CSpec Try.prog 19 [] [.fz 1 (ints .u8 l)] [] (.v (.int .u32 (crcV l))) := ref_of l hb hl
def headR (p : List Int) : List Int := enc p.length 8 ++ enc (crcV p) 8
theorem headR_len (p : List Int) : (headR p).length = 16 := by simp [headR]
/-- A record as bytes. -/
def putR (x : Rc) (b : Int) : List Int := if PR x ∧ 1 ≤ b ∧ b ≤ 4096 then padL (headR (payR x) ++ payR x) b.toNat else []
theorem putR_bad {x : Rc} {b : Int} (h : ¬ (PR x ∧ 1 ≤ b ∧ b ≤ 4096)) : putR x b = [] := if_neg h
theorem putR_good {x : Rc} {b : Int} (h : PR x ∧ 1 ≤ b ∧ b ≤ 4096) : putR x b = padL (headR (payR x) ++ payR x) b.toNat := if_pos h
theorem wrap_crc (p : List Int) : IntKind.i64.wrap (crcV p) = crcV p := by
  have := crcV_bd p
  exact wrap_i64 (by omega) (by omega)
theorem put_bad (x : Rc) (b : Int) (hB : x.body.length ≤ 140737488355328) (h : ¬ (PR x ∧ 1 ≤ b ∧ b ≤ 4096)) : CSpec Try.prog 24 [] [.agg (RcC x), .int b] [] (.v (.slice none 0 0)) := by
 refine CSpec.body Try.func24 rfl rfl rfl rfl rfl fun Q hQ => ?_
 refine T.seq fun K1 hK1 => ?_
 refine T.region ?_
 refine rs rfl rfl (ok_box (n := 10) rfl rfl (by decide)) ?_
 refine rs rfl rfl (ok_move (.inr rfl)) ?_
 refine ro_nil ?_
 refine keepK hK1 [1, 2] (by dsimp) (by dsimp) ?_
 refine T.seq fun K2 hK2 => ?_
 refine T.seq fun K3 hK3 => ?_
 refine T.region ?_
 refine rs rfl rfl (ok_load rfl ti_api_Rec rfl rfl) ?_
 refine ro rfl rfl (ok_call rfl rfl rfl ((right_ok x hB).plain (by show renL (pos []) [.agg (RcC x)] = _; simp [renL, AV.ren, RcC_ren]) rfl)) ?_
 refine rs rfl rfl (ok_unOp rfl rfl) ?_
 refine ro_case rfl rfl (OpOk.step (ok_moveb (.inl rfl) rfl)) (fun hb => ?_) (fun hb => ?_)
 ·(try simp only [dE] at hb)
  refine ro_skip rfl rfl ?_
  refine ro_skip rfl rfl ?_
  refine ro_skip rfl rfl ?_
  refine rs rfl rfl (ok_pickb (t := true) (d := true) rfl rfl rfl) ?_
  refine ro_nil ?_
  refine keepK hK3 [1, 2, 14] (by dsimp) (by dsimp) ?_
  refine T.cond_true rfl ?_
  refine T.seq fun K4 hK4 => ?_
  refine T.region ?_
  refine rs rfl rfl (ok_move (.inr rfl)) ?_
  refine ro_nil ?_
  refine keepK hK4 [4] (by dsimp) (by dsimp) ?_
  refine T.ret (hQ _ _ _ rfl ?_).1 -- ret 1
  exact TEnt.fin [] (by decide) (by simp) rfl ⟨rfl, trivial⟩
 ·(try simp only [dE] at hb)
  have h' : ¬ (1 ≤ b ∧ b ≤ 4096) := fun h2 => h ⟨hb, h2⟩
  refine rs rfl rfl (ok_move (.inl rfl)) ?_
  refine ro rfl rfl (ok_call rfl rfl rfl ((fits_ok b).plain rfl rfl)) ?_
  refine rs rfl rfl (OpOk.bool (d := true) (ok_unOp rfl rfl) (by simp; omega)) ?_
  refine rs rfl rfl (ok_pickb (t := false) (d := true) rfl rfl rfl) ?_
  refine ro_nil ?_
  refine keepK hK3 [1, 2, 14] (by dsimp) (by dsimp) ?_
  refine T.cond_true rfl ?_
  refine T.seq fun K5 hK5 => ?_
  refine T.region ?_
  refine rs rfl rfl (ok_move (.inr rfl)) ?_
  refine ro_nil ?_
  refine keepK hK5 [4] (by dsimp) (by dsimp) ?_
  refine T.ret (hQ _ _ _ rfl ?_).1 -- ret 2
  exact TEnt.fin [] (by decide) (by simp) rfl ⟨rfl, trivial⟩
theorem put_good (x : Rc) (b : Nat) (hB : Bytes x.body) (h : PR x) (hb : 1 ≤ b ∧ b ≤ 4096) : CSpec Try.prog 24 [] [.agg (RcC x), .int b] [some ⟨1, true, ints .u8 (padL (headR (payR x) ++ payR x) b)⟩] (.sl 0 0 (padL (headR (payR x) ++ payR x) b).length) := by
 have hbl : x.body.length ≤ 1048576 := by unfold PR at h; omega
 obtain ⟨P, hP⟩ : ∃ P, payR x = P := ⟨_, rfl⟩
 have hPl : P.length = 80 + x.body.length := by rw [← hP]; exact payR_len x
 have hPB : Bytes P := hP ▸ payR_bytes hB
 have hH := headR_len P
 rw [hP]
 refine CSpec.body Try.func24 rfl rfl rfl rfl rfl fun Q hQ => ?_
 refine T.seq fun K1 hK1 => ?_
 refine T.region ?_
 refine rs rfl rfl (ok_box (n := 10) rfl rfl (by decide)) ?_
 refine rs rfl rfl (ok_move (.inr rfl)) ?_
 refine ro_nil ?_
 refine keepK hK1 [1, 2] (by dsimp) (by dsimp) ?_
 refine T.seq fun K2 hK2 => ?_
 refine T.seq fun K3 hK3 => ?_
 refine T.region ?_
 refine rs rfl rfl (ok_load rfl ti_api_Rec rfl rfl) ?_
 refine ro rfl rfl (ok_call rfl rfl rfl (((right_ok x (by omega)).plain (by show renL (pos []) [.agg (RcC x)] = _; simp [renL, AV.ren, RcC_ren]) rfl).eq (x' := .b true) (by rw [decide_eq_true h]) rfl)) ?_
 refine rs rfl rfl (OpOk.bool (d := false) (ok_unOp rfl rfl) (rfl)) ?_
 refine rs rfl rfl (ok_moveb (c := false) (.inl rfl) rfl) ?_
 refine rs rfl rfl (ok_move (.inl rfl)) ?_
 refine ro rfl rfl (ok_call rfl rfl rfl (((fits_ok b).plain rfl rfl).eq (x' := .b true) (by rw [decide_eq_true (by omega)]) rfl)) ?_
 refine rs rfl rfl (OpOk.bool (d := false) (ok_unOp rfl rfl) (rfl)) ?_
 refine rs rfl rfl (ok_pickb (t := false) (d := false) rfl rfl rfl) ?_
 refine ro_nil ?_
 refine keepK hK3 [1, 2, 14] (by dsimp) (by dsimp) ?_
 refine T.cond_false rfl ?_
 refine T.skip ?_
 refine keepK hK2 [1, 2] (by dsimp) (by dsimp) ?_
 refine T.seq fun K4 hK4 => ?_
 refine T.region ?_
 refine rs rfl rfl (ok_load rfl ti_api_Rec rfl rfl) ?_
 refine ro rfl rfl (ok_call rfl rfl rfl (((payload_ok x hbl).plain (by show renL (pos []) [.agg (RcC x)] = _; simp [renL, AV.ren, RcC_ren]) (by simp [AV.ren, renL_ints])).eq (x' := .fz 1 (ints .u8 P)) (by rw [hP]) rfl)) ?_
 refine rs rfl rfl (ok_move (.inr rfl)) ?_
 refine ro_nil ?_
 refine keepK hK4 [1, 5] (by dsimp) (by dsimp) ?_
 refine T.seq fun K5 hK5 => ?_
 refine T.region ?_
 refine rs rfl rfl (ok_move (.inl rfl)) ?_
 refine rs rfl rfl (ok_len' rfl rfl ti_Luint8 rfl (by first | exact ints_length _ _ | exact rowsA_length _ _ | exact Cms_len _ | exact mapLen _ | rfl)) ?_
 refine ro rfl rfl (ok_call rfl rfl rfl (((pkint_frz (l := []) (r := enc P.length 8) (v := P.length) rfl (by simp)).plain rfl (by simp [AV.ren, renL_ints])).view (EntL.cons (Ent.nil 1) (EntL.refl _)))) ?_
 refine rs rfl rfl (ok_move (.inl rfl)) ?_
 refine ro rfl rfl (ok_call rfl rfl rfl ((crcOf_ok hPB (by omega)).plain (by simp [renL, AV.ren, renL_ints]) rfl)) ?_
 refine rs rfl rfl ((ok_conv_int rfl ti_uint32 ti_int rfl rfl).eq (x' := .int (crcV P)) (by rw [wrap_crc]) rfl) ?_
 refine ro rfl rfl (ok_call rfl rfl rfl ((pkint_new (enc P.length 8) (crcV P) (by simp)).fresh (x' := .sl 1 0 (headR P).length) (H' := [some ⟨1, true, ints .u8 (headR P)⟩]) (by simp [renL, AV.ren, renL_ints]) rfl (by simp [renH, Blk.ren, renL_ints, headR]))) ?_
 refine rs rfl rfl (ok_move (.inr rfl)) ?_
 refine ro_nil ?_
 refine keepK hK5 [1, 5, 6] (by dsimp) (by dsimp) ?_
 refine T.seq fun K6 hK6 => ?_
 refine T.region ?_
 refine rs rfl rfl (ok_move (.inl rfl)) ?_
 refine rs rfl rfl (ok_move (.inl rfl)) ?_
 refine rs rfl rfl (by exact ok_append_ints (k := .u8) (xs := headR P) (ys := P) rfl ti_Luint8 rfl ti_uint8 rfl (by decide) rfl ti_Luint8 (by simp) rfl rfl rfl rfl rfl rfl rfl rfl rfl (by simp [headR_len]; omega)) ?_
 refine rs rfl rfl (ok_move (.inl rfl)) ?_
 refine ro rfl rfl (ok_call rfl rfl rfl ((pad_new (headR P ++ P) b (by omega) (by simp [headR_len]; omega)).lendI (EntL.cons (Ent.lent 2 1 (ints .u8 (headR P ++ P)) rfl (by simp)) (EntL.refl _)) (by simp [renL, AV.ren, renL_ints]))) ?_
 refine rs rfl rfl (ok_move (.inr rfl)) ?_
 refine ro_nil ?_
 refine keepK hK6 [4] (by dsimp) (by dsimp) ?_
 refine T.ret (hQ _ _ _ rfl ?_).1 -- ret 1
 exact TEnt.fin [3] (by decide) (by simp) (by simp [normH, hget, Blk.ren, renL_ints]) ⟨rfl, trivial⟩
theorem put_ok (x : Rc) (b : Int) (hB : Bytes x.body) (hl : x.body.length ≤ 140737488355328) : CSpec Try.prog 24 [] [.agg (RcC x), .int b] [] (.fz 1 (ints .u8 (putR x b))) := by
  by_cases h : PR x ∧ 1 ≤ b ∧ b ≤ 4096
  · rw [putR_good h]
    obtain ⟨n, rfl⟩ := Int.eq_ofNat_of_zero_le (show 0 ≤ b by omega)
    exact (put_good x n hB h.1 (by omega)).frz' rfl
  · rw [putR_bad h]
    exact (put_bad x b hl h).res (Ent.nil 1)
theorem putR_len (x : Rc) (b : Int) : (putR x b).length ≤ 2000000 := by
  unfold putR
  split
  · rename_i h
    have hx := h.1
    unfold PR at hx
    have h1 := payR_len x
    have h2 := headR_len (payR x)
    have h3 := Nat.mod_lt (b.toNat - (headR (payR x) ++ payR x).length % b.toNat) (show b.toNat > 0 by omega)
    simp only [padL, List.length_append, List.length_replicate] at h3 ⊢
    omega
  · simp
def rc0 : Rc := ⟨0, 0, 0, 0, 0, 0, 0, 0, 0, []⟩
theorem rc0_view {H : Heap} : Ent H (.agg [.int 0, .int 0, .int 0, .int 0, .int 0, .int 0, .int 0, .int 0, .int 0, .v (.slice none 0 0)]) (.agg (RcC rc0)) :=
  Ent.agg (EntL.append (l := [.int 0, .int 0, .int 0, .int 0, .int 0, .int 0, .int 0, .int 0, .int 0]) (EntL.refl _) (EntL.cons (Ent.nil 1) EntL.nil))
end Go.Proofs.Ytjklgbafnfoolaa.AmF
namespace Go.Proofs.Ytjklgbafnfoolaa.AmF
open Go Go.AM
set_option maxRecDepth 100000
set_option linter.unusedSimpArgs false
set_option linter.unusedVariables false
attribute [local simp] tkeep tget tput ev cav argsTM pickA normT putA splice AV.cells ints_length rowsA_length enc_len
def zeroB (l : List Int) : Bool := l.all (· == 0)
def firstNZ : List Int → Nat → Option Nat
  | [], _ => none
  | c :: l, i => if c ≠ 0 then some i else firstNZ l (i + 1)
def nzI (l : List Int) (i : Nat) : Int := match firstNZ l i with
  | some k => k
  | none => -1
theorem nzI_zero : ∀ (l : List Int) (i : Nat), (decide (nzI l i ≥ 0)) = !zeroB l
  | [], i => by simp [nzI, firstNZ, zeroB]
  | c :: l, i => by
    have ih := nzI_zero l (i + 1)
    by_cases h : c ≠ 0
    · have : (c == 0) = false := by simpa using h
      simp [nzI, firstNZ, zeroB, h]
    · have h0 : c = 0 := by omega
      subst h0
      have e : nzI (0 :: l) i = nzI l (i + 1) := by simp [nzI, firstNZ]
      rw [e, ih]
      simp [zeroB]
theorem nzI_step {l : List Int} {i : Nat} {c : Int} (h : l[i]? = some c) (hc : c = 0) : nzI (l.drop i) i = nzI (l.drop (i + 1)) (i + 1) := by
  have hi := (List.getElem?_eq_some_iff.1 h).1
  have hcc : l[i] = c := (List.getElem?_eq_some_iff.1 h).2
  rw [List.drop_eq_getElem_cons hi, hcc, hc]
  simp [nzI, firstNZ]
theorem nzI_hit {l : List Int} {i : Nat} {c : Int} (h : l[i]? = some c) (hc : c ≠ 0) : nzI (l.drop i) i = i := by
  have hi := (List.getElem?_eq_some_iff.1 h).1
  have hcc : l[i] = c := (List.getElem?_eq_some_iff.1 h).2
  rw [List.drop_eq_getElem_cons hi, hcc]
  simp [nzI, firstNZ, hc]
theorem zero1_ok (c : Int) : CSpec Try.prog 64 [] [.v (.int .u8 c)] [] (.b (c != 0)) := by
 refine CSpec.body Try.func64 rfl rfl rfl rfl rfl fun Q hQ => ?_
 refine T.seq fun K1 hK1 => ?_
 refine T.region ?_
 refine rs rfl rfl (ok_moveb (c := false) (.inr rfl) rfl) ?_
 refine ro_nil ?_
 refine keepK hK1 [0] (by dsimp) (by dsimp) ?_
 refine T.seq fun K2 hK2 => ?_
 refine T.region ?_
 refine rs rfl rfl (ok_move (.inl rfl)) ?_
 refine rs rfl rfl (ok_binOp rfl ti_uint8 rfl) ?_
 refine rs rfl rfl (ok_move (.inr rfl)) ?_
 refine ro_nil ?_
 refine keepK hK2 [2] (by dsimp) (by dsimp) ?_
 refine T.ret (hQ _ _ _ rfl ?_).1 -- ret 1
 exact TEnt.fin [] (by decide) (by simp) rfl ⟨rfl, trivial⟩
theorem indexfunc_ok (l : List Int) (hl : l.length ≤ 140737488355328) : CSpec Try.prog 82 [] [.fz 1 (ints .u8 l), .fn (.func 64) [] []] [] (.int (nzI l 0)) := by
 refine CSpec.body Try.func82 rfl rfl rfl rfl rfl fun Q hQ => ?_
 refine T.seq fun K1 hK1 => ?_
 refine T.region ?_
 refine rs rfl rfl (ok_move (.inr rfl)) ?_
 refine ro_nil ?_
 refine keepK hK1 [0, 1] (by dsimp) (by dsimp) ?_
 refine T.seq fun K2 hK2 => ?_
 refine T.seq fun K3 hK3 => ?_
 refine T.region ?_
 refine rs rfl rfl (ok_move (.inl rfl)) ?_
 refine rs rfl rfl (ok_len' rfl rfl ti_Luint8 rfl (by first | exact ints_length _ _ | exact rowsA_length _ _ | exact Cms_len _ | exact mapLen _ | rfl)) ?_
 refine rs rfl rfl (ok_move (.inl rfl)) ?_
 refine ro_nil ?_
 refine keepK hK3 [0, 1, 7, 8] (by dsimp) (by dsimp) ?_
 refine T.block ?_
 refine T.loopI (ι := Nat) (fun i => i ≤ l.length ∧ nzI l 0 = nzI (l.drop i) i) (fun i => l.length - i) (fun i => ([(0, .fz 1 (ints .u8 l)), (1, .fn (.func 64) [] []), (7, .int l.length), (8, .int i)], [])) 0 ⟨Nat.zero_le _, rfl⟩ (TEnt.toH rfl ⟨rfl, rfl, rfl, rfl, trivial⟩) (fun i hi => ?_) -- loop 1
 obtain ⟨hi, hnz⟩ := hi
 refine T.seq fun K4 hK4 => ?_
 refine T.region ?_
 refine rs rfl rfl (ok_binOp rfl ti_int rfl) ?_
 refine ro_nil ?_
 refine keepK hK4 [0, 1, 7, 8, 9] (by dsimp) (by dsimp) ?_
 refine T.seq fun K5 hK5 => ?_
 refine T.cond rfl (fun hc => ?_) (fun hc => ?_) -- cond 1
 ·(try simp only [dE] at hc)
  obtain ⟨c, hc0⟩ : ∃ c, l[i]? = some c := ⟨_, List.getElem?_eq_getElem (by omega)⟩
  refine T.skip ?_
  refine keepK hK5 [0, 1, 7, 8] (by dsimp) (by dsimp) ?_
  refine T.seq fun K6 hK6 => ?_
  refine T.block ?_
  refine T.seq fun K7 hK7 => ?_
  refine T.region ?_
  refine rs rfl rfl (ok_move (.inl rfl)) ?_
  refine rs rfl rfl (ok_move (.inr rfl)) ?_
  refine ro_nil ?_
  refine keepK hK7 [0, 1, 5, 7, 8] (by dsimp) (by dsimp) ?_
  refine T.seq fun K8 hK8 => ?_
  refine T.region ?_
  refine rs rfl rfl (ok_move (.inl rfl)) ?_
  refine rs rfl rfl (ok_move (.inl rfl)) ?_
  refine rs rfl rfl (ok_move (.inl rfl)) ?_
  refine rs rfl rfl (by exact ok_index_ints rfl ti_Luint8 rfl ti_uint8 rfl rfl rfl (by omega) (by simpa using hc0)) ?_
  refine rs rfl rfl (ok_load rfl ti_uint8 rfl rfl) ?_
  refine ro rfl rfl (ok_call rfl rfl rfl ((zero1_ok c).plain rfl rfl)) ?_
  refine ro_nil ?_
  refine keepK hK8 [0, 1, 5, 7, 8, 16] (by dsimp) (by dsimp) ?_
  refine T.cond rfl (fun hc => ?_) (fun hc => ?_) -- cond 2
  ·(try simp only [dE] at hc)
   rw [hnz, nzI_hit hc0 hc] at hQ
   refine T.seq fun K9 hK9 => ?_
   refine T.region ?_
   refine rs rfl rfl (ok_move (.inl rfl)) ?_
   refine rs rfl rfl (ok_move (.inr rfl)) ?_
   refine ro_nil ?_
   refine keepK hK9 [4] (by dsimp) (by dsimp) ?_
   refine T.ret (hQ _ _ _ rfl ?_).1 -- ret 1
   exact TEnt.fin [] (by decide) (by simp) rfl ⟨rfl, trivial⟩
  ·(try simp only [dE] at hc)
   refine T.skip ?_
   refine keepK hK6 [0, 1, 7, 8] (by dsimp) (by dsimp) ?_
   refine T.region ?_
   refine rs rfl rfl (ok_add64 rfl ti_int rfl rfl (by omega) (by omega)) ?_
   refine rs rfl rfl (ok_move (.inl rfl)) ?_
   refine ro_nil ?_
   exact ⟨i + 1, ⟨by omega, by rw [hnz, nzI_step hc0 (by simpa using hc)]⟩, by omega, TEnt.toH rfl ⟨rfl, rfl, rfl, rfl, trivial⟩⟩
 ·(try simp only [dE] at hc)
  have hil : i = l.length := by omega
  subst hil
  have h1 : nzI l 0 = -1 := by rw [hnz, List.drop_length]; rfl
  rw [h1] at hQ
  refine T.exit ?_
  refine keepK hK2 [] (by dsimp) (by dsimp) ?_
  refine T.seq fun K10 hK10 => ?_
  refine T.region ?_
  refine rs rfl rfl (ok_move (.inr rfl)) ?_
  refine ro_nil ?_
  refine keepK hK10 [4] (by dsimp) (by dsimp) ?_
  refine T.ret (hQ _ _ _ rfl ?_).1 -- ret 2
  exact TEnt.fin [] (by decide) (by simp) rfl ⟨rfl, trivial⟩
theorem containsfunc_ok (l : List Int) (hl : l.length ≤ 140737488355328) : CSpec Try.prog 63 [] [.fz 1 (ints .u8 l), .fn (.func 64) [] []] [] (.b (!zeroB l)) := by
 refine CSpec.body Try.func63 rfl rfl rfl rfl rfl fun Q hQ => ?_
 refine T.seq fun K1 hK1 => ?_
 refine T.region ?_
 refine rs rfl rfl (ok_moveb (c := false) (.inr rfl) rfl) ?_
 refine ro_nil ?_
 refine keepK hK1 [0, 1] (by dsimp) (by dsimp) ?_
 refine T.seq fun K2 hK2 => ?_
 refine T.region ?_
 refine rs rfl rfl (ok_move (.inl rfl)) ?_
 refine rs rfl rfl (ok_move (.inl rfl)) ?_
 refine ro rfl rfl (ok_call rfl rfl rfl ((indexfunc_ok l hl).plain (by simp [renL, AV.ren, renL_ints]) rfl)) ?_
 refine rs rfl rfl ((ok_binOp rfl ti_int rfl).eq (x' := .b (!zeroB l)) (congrArg AV.b (nzI_zero l 0)) rfl) ?_
 refine rs rfl rfl (ok_move (.inr rfl)) ?_
 refine ro_nil ?_
 refine keepK hK2 [4] (by dsimp) (by dsimp) ?_
 refine T.ret (hQ _ _ _ rfl ?_).1 -- ret 1
 exact TEnt.fin [] (by decide) (by simp) rfl ⟨rfl, trivial⟩
theorem zero_ok (l : List Int) (hl : l.length ≤ 140737488355328) : CSpec Try.prog 34 [] [.fz 1 (ints .u8 l)] [] (.b (zeroB l)) := by
 refine CSpec.body Try.func34 rfl rfl rfl rfl rfl fun Q hQ => ?_
 refine T.seq fun K1 hK1 => ?_
 refine T.region ?_
 refine rs rfl rfl (ok_moveb (c := false) (.inr rfl) rfl) ?_
 refine ro_nil ?_
 refine keepK hK1 [0] (by dsimp) (by dsimp) ?_
 refine T.seq fun K2 hK2 => ?_
 refine T.region ?_
 refine rs rfl rfl (ok_move (.inl rfl)) ?_
 refine ro rfl rfl (ok_call rfl rfl rfl ((containsfunc_ok l hl).plain (by simp [renL, AV.ren, renL_ints]) rfl)) ?_
 refine rs rfl rfl ((ok_unOp rfl rfl).eq (x' := .b (zeroB l)) (congrArg AV.b (by simp)) rfl) ?_
 refine rs rfl rfl (ok_move (.inr rfl)) ?_
 refine ro_nil ?_
 refine keepK hK2 [2] (by dsimp) (by dsimp) ?_
 refine T.ret (hQ _ _ _ rfl ?_).1 -- ret 1
 exact TEnt.fin [] (by decide) (by simp) rfl ⟨rfl, trivial⟩
/-- Numbers read one behind the other, each between bounds of its own. -/
def rdF (l : List Int) (lo hi : Nat → Int) : Nat → Nat × Int
  | 0 => (0, 0)
  | n + 1 => ((ri l (rdF l lo hi n).1 (rdF l lo hi n).2 (lo n) (hi n)).1, (ri l (rdF l lo hi n).1 (rdF l lo hi n).2 (lo n) (hi n)).2.1)
def rdFV (l : List Int) (lo hi : Nat → Int) (n : Nat) : Int := (ri l (rdF l lo hi n).1 (rdF l lo hi n).2 (lo n) (hi n)).2.2
theorem rdF_le (l : List Int) (lo hi : Nat → Int) : ∀ n, (rdF l lo hi n).1 ≤ l.length
  | 0 => Nat.zero_le _
  | n + 1 => ri_le (rdF_le l lo hi n)
def rLo (i : Nat) : Int := if i = 5 then -1 else 0
def rHi (i : Nat) : Int := if i = 0 then 6 else 1099511627776
/-- The row of bytes behind the nine numbers. -/
def rBody (l : List Int) : Nat × Int × List Int := rb l (rdF l rLo rHi 9).1 (rdF l rLo rHi 9).2 1048576
def xr (l : List Int) : Rc := ⟨rdFV l rLo rHi 0, rdFV l rLo rHi 1, rdFV l rLo rHi 2, rdFV l rLo rHi 3, rdFV l rLo rHi 4, rdFV l rLo rHi 5, rdFV l rLo rHi 6, rdFV l rLo rHi 7, rdFV l rLo rHi 8, (rBody l).2.2⟩
def parOk (l : List Int) : Prop := (rBody l).2.1 = 0 ∧ (rBody l).1 = l.length
instance (l : List Int) : Decidable (parOk l) := by unfold parOk; infer_instance
/-- A cell that holds the pointer to a reader. -/
def PB (k : Nat) : Blk := ⟨1, true, [.ref k 0 0]⟩
/-- A call that is handed a reader, and a cell that points to it. -/
theorem _root_.Go.AM.CSpec.passRP {H : Heap} {f : FuncId} {l l' : List Int} {p p' : Nat} {e e' : Int} {args args' : List AV} {x : AV} (h : CSpec Try.prog f [R l p e, PB 0] args' [some (R l' p' e'), some (PB 0)] x) (hg : hget H 1 = some (R l p e)) (hg2 : hget H 2 = some (PB 1)) (ha : renL (pos [1, 2]) args = args') (hx : ∀ ρ, x.ren ρ = x) :
    CallOk Try.prog f H args x ((H.set 1 (some (R l' p' e'))).set 2 (some (PB 1))) := by
  have hid := hget_lt hg
  have hid2 := hget_lt hg2
  have := h.pass (H := H) (args := args) [1, 2] (by decide) (by simp; omega) (by simp [normH, hg, hg2, R_ren]; rfl) ha
  exact this.eq (hx _) (by simp [mergeH, setIds, renH, R_ren]; rfl)
theorem num_ok (l : List Int) (p : Nat) (e : Int) (hB : Bytes l) (hp : p ≤ l.length) (hl : l.length ≤ 140737488355328) : CSpec Try.prog 60 [R l p e, PB 0] [.ref 1 0 0] [some (R l (ri l p e 0 1099511627776).1 (ri l p e 0 1099511627776).2.1), some (PB 0)] (.int (ri l p e 0 1099511627776).2.2) := by
 refine CSpec.body Try.func60 rfl rfl rfl rfl rfl fun Q hQ => ?_
 refine T.seq fun K1 hK1 => ?_
 refine T.region ?_
 refine rs rfl rfl (ok_move (.inr rfl)) ?_
 refine ro_nil ?_
 refine keepK hK1 [0] (by dsimp) (by dsimp) ?_
 refine T.seq fun K2 hK2 => ?_
 refine T.region ?_
 refine rs rfl rfl (ok_load rfl ti_Ppack_Reader rfl rfl) ?_
 refine ro rfl rfl (ok_call rfl rfl rfl ((int_ok l p e 0 1099511627776 hB hp hl).passR 0 rfl rfl (fun _ => rfl))) ?_
 refine rs rfl rfl (ok_move (.inr rfl)) ?_
 refine ro_nil ?_
 refine keepK hK2 [1] (by dsimp) (by dsimp) ?_
 refine T.ret (hQ _ _ _ rfl ?_).1 -- ret 1
 exact TEnt.toH rfl ⟨rfl, trivial⟩
def ZB : Blk := ⟨10, true, [.agg [.int 0, .int 0, .int 0, .int 0, .int 0, .int 0, .int 0, .int 0, .int 0, .v (.slice none 0 0)]]⟩
set_option maxHeartbeats 1000000 in
theorem parse_ok (l : List Int) (hB : Bytes l) (hl : l.length ≤ 140737488355328) : CSpec Try.prog 33 [] [.fz 1 (ints .u8 l)] [] (.tup [.agg (RcC (xr l)), .b (decide (parOk l))]) := by
 have hp := rdF_le l rLo rHi
 have hb9 := rb_le (l := l) (e := (rdF l rLo rHi 9).2) (m := 1048576) (hp 9)
 refine CSpec.body Try.func33 rfl rfl rfl rfl rfl fun Q hQ => ?_
 refine T.seq fun K1 hK1 => ?_
 refine T.region ?_
 refine rs rfl rfl (ok_alloc rfl ti_api_Rec rfl (by decide)) ?_
 refine rs rfl rfl (ok_moveb (c := false) (.inr rfl) rfl) ?_
 refine ro_nil ?_
 refine keepK hK1 [0, 2] (by dsimp) (by dsimp) ?_
 refine T.seq fun K2 hK2 => ?_
 refine T.region ?_
 refine rs rfl rfl (ok_move (.inl rfl)) ?_
 refine ro rfl rfl (ok_call rfl rfl rfl ((new_ok l hl).fresh (x' := .ref 1 0 0) (H' := [some (R l 0 0)]) (by simp [renL, AV.ren, renL_ints]) rfl (by simp [renH, R_ren]))) ?_
 refine rs rfl rfl (ok_alloc rfl ti_Ppack_Reader rfl (by decide)) ?_
 refine rs rfl rfl (ok_store rfl ti_Ppack_Reader (by decide) rfl rfl rfl rfl rfl (by first | exact Nat.le_of_ble_eq_true rfl | simp) (by first | exact .inl ⟨rfl, rfl⟩ | exact .inr rfl)) ?_
 refine ro_nil ?_
 refine keepK hK2 [2, 4] (by dsimp) (by dsimp) ?_
 refine T.seq fun K3 hK3 => ?_
 refine T.region ?_
 refine rs rfl rfl (ok_makeFunc rfl) ?_
 refine rs rfl rfl (ok_move (.inr rfl)) ?_
 refine ro_nil ?_
 refine keepK hK3 [2, 4, 5] (by dsimp) (by dsimp) ?_
 refine T.seq fun K4 hK4 => ?_
 refine T.region ?_
 refine rs rfl rfl (ok_load rfl ti_Ppack_Reader rfl rfl) ?_
 refine ro rfl rfl (ok_call rfl rfl rfl (((int_ok l (rdF l rLo rHi 0).1 (rdF l rLo rHi 0).2 0 6 hB (hp 0) hl).passR 1 rfl rfl (fun _ => rfl)).eq (x' := .int (rdFV l rLo rHi 0)) (H'' := [some ZB, some (R l (rdF l rLo rHi 1).1 (rdF l rLo rHi 1).2), some (PB 1)]) rfl rfl)) ?_
 refine rs rfl rfl (ok_build rfl ti_api_Rec rfl) ?_
 refine rs rfl rfl (ok_alloc rfl ti_api_Rec rfl (by decide)) ?_
 refine rs rfl rfl (ok_store rfl ti_api_Rec (by decide) rfl rfl rfl rfl rfl (by first | exact Nat.le_of_ble_eq_true rfl | simp) (by first | exact .inl ⟨rfl, rfl⟩ | exact .inr rfl)) ?_
 refine ro_nil ?_
 refine keepK hK4 [2, 4, 5, 6] (by dsimp) (by dsimp) ?_
 refine T.seq fun K5 hK5 => ?_
 refine T.region ?_
 refine rs rfl rfl (ok_move (.inl rfl)) ?_
 refine ro rfl rfl (ok_call rfl rfl rfl (((num_ok l (rdF l rLo rHi 1).1 (rdF l rLo rHi 1).2 hB (hp 1) hl).passRP rfl rfl rfl (fun _ => rfl)).eq (x' := .int (rdFV l rLo rHi 1)) (H'' := [some ZB, some (R l (rdF l rLo rHi 2).1 (rdF l rLo rHi 2).2), some (PB 1), some ⟨10, true, [.agg [.int (rdFV l rLo rHi 0), .int 0, .int 0, .int 0, .int 0, .int 0, .int 0, .int 0, .int 0, .v (.slice none 0 0)]]⟩]) rfl rfl)) ?_
 refine rs rfl rfl (ok_move (.inl rfl)) ?_
 refine ro rfl rfl (ok_call rfl rfl rfl (((num_ok l (rdF l rLo rHi 2).1 (rdF l rLo rHi 2).2 hB (hp 2) hl).passRP rfl rfl rfl (fun _ => rfl)).eq (x' := .int (rdFV l rLo rHi 2)) (H'' := [some ZB, some (R l (rdF l rLo rHi 3).1 (rdF l rLo rHi 3).2), some (PB 1), some ⟨10, true, [.agg [.int (rdFV l rLo rHi 0), .int 0, .int 0, .int 0, .int 0, .int 0, .int 0, .int 0, .int 0, .v (.slice none 0 0)]]⟩]) rfl rfl)) ?_
 refine rs rfl rfl (ok_move (.inl rfl)) ?_
 refine ro rfl rfl (ok_call rfl rfl rfl (((num_ok l (rdF l rLo rHi 3).1 (rdF l rLo rHi 3).2 hB (hp 3) hl).passRP rfl rfl rfl (fun _ => rfl)).eq (x' := .int (rdFV l rLo rHi 3)) (H'' := [some ZB, some (R l (rdF l rLo rHi 4).1 (rdF l rLo rHi 4).2), some (PB 1), some ⟨10, true, [.agg [.int (rdFV l rLo rHi 0), .int 0, .int 0, .int 0, .int 0, .int 0, .int 0, .int 0, .int 0, .v (.slice none 0 0)]]⟩]) rfl rfl)) ?_
 refine rs rfl rfl (ok_move (.inl rfl)) ?_
 refine ro rfl rfl (ok_call rfl rfl rfl (((num_ok l (rdF l rLo rHi 4).1 (rdF l rLo rHi 4).2 hB (hp 4) hl).passRP rfl rfl rfl (fun _ => rfl)).eq (x' := .int (rdFV l rLo rHi 4)) (H'' := [some ZB, some (R l (rdF l rLo rHi 5).1 (rdF l rLo rHi 5).2), some (PB 1), some ⟨10, true, [.agg [.int (rdFV l rLo rHi 0), .int 0, .int 0, .int 0, .int 0, .int 0, .int 0, .int 0, .int 0, .v (.slice none 0 0)]]⟩]) rfl rfl)) ?_
 refine rs rfl rfl (ok_fieldAddr rfl ti_api_Rec rfl rfl ti_int (by decide) rfl) ?_
 refine rs rfl rfl (ok_store rfl ti_int (by decide) rfl rfl rfl rfl rfl (by first | exact Nat.le_of_ble_eq_true rfl | simp) (by first | exact .inl ⟨rfl, rfl⟩ | exact .inr rfl)) ?_
 refine rs rfl rfl (ok_fieldAddr rfl ti_api_Rec rfl rfl ti_int (by decide) rfl) ?_
 refine rs rfl rfl (ok_store rfl ti_int (by decide) rfl rfl rfl rfl rfl (by first | exact Nat.le_of_ble_eq_true rfl | simp) (by first | exact .inl ⟨rfl, rfl⟩ | exact .inr rfl)) ?_
 refine rs rfl rfl (ok_fieldAddr rfl ti_api_Rec rfl rfl ti_int (by decide) rfl) ?_
 refine rs rfl rfl (ok_store rfl ti_int (by decide) rfl rfl rfl rfl rfl (by first | exact Nat.le_of_ble_eq_true rfl | simp) (by first | exact .inl ⟨rfl, rfl⟩ | exact .inr rfl)) ?_
 refine rs rfl rfl (ok_fieldAddr rfl ti_api_Rec rfl rfl ti_int (by decide) rfl) ?_
 refine rs rfl rfl (ok_store rfl ti_int (by decide) rfl rfl rfl rfl rfl (by first | exact Nat.le_of_ble_eq_true rfl | simp) (by first | exact .inl ⟨rfl, rfl⟩ | exact .inr rfl)) ?_
 refine ro_nil ?_
 refine keepK hK5 [2, 4, 5, 6] (by dsimp) (by dsimp) ?_
 refine T.seq fun K6 hK6 => ?_
 refine T.region ?_
 refine rs rfl rfl (ok_load rfl ti_Ppack_Reader rfl rfl) ?_
 refine ro rfl rfl (ok_call rfl rfl rfl (((int_ok l (rdF l rLo rHi 5).1 (rdF l rLo rHi 5).2 (-1) 1099511627776 hB (hp 5) hl).passR 1 rfl rfl (fun _ => rfl)).eq (x' := .int (rdFV l rLo rHi 5)) (H'' := [some ZB, some (R l (rdF l rLo rHi 6).1 (rdF l rLo rHi 6).2), some (PB 1), some ⟨10, true, [.agg [.int (rdFV l rLo rHi 0), .int (rdFV l rLo rHi 1), .int (rdFV l rLo rHi 2), .int (rdFV l rLo rHi 3), .int (rdFV l rLo rHi 4), .int 0, .int 0, .int 0, .int 0, .v (.slice none 0 0)]]⟩]) rfl rfl)) ?_
 refine rs rfl rfl (ok_fieldAddr rfl ti_api_Rec rfl rfl ti_int (by decide) rfl) ?_
 refine rs rfl rfl (ok_store rfl ti_int (by decide) rfl rfl rfl rfl rfl (by first | exact Nat.le_of_ble_eq_true rfl | simp) (by first | exact .inl ⟨rfl, rfl⟩ | exact .inr rfl)) ?_
 refine ro_nil ?_
 refine keepK hK6 [2, 4, 5, 6] (by dsimp) (by dsimp) ?_
 refine T.seq fun K7 hK7 => ?_
 refine T.region ?_
 refine rs rfl rfl (ok_move (.inl rfl)) ?_
 refine ro rfl rfl (ok_call rfl rfl rfl (((num_ok l (rdF l rLo rHi 6).1 (rdF l rLo rHi 6).2 hB (hp 6) hl).passRP rfl rfl rfl (fun _ => rfl)).eq (x' := .int (rdFV l rLo rHi 6)) (H'' := [some ZB, some (R l (rdF l rLo rHi 7).1 (rdF l rLo rHi 7).2), some (PB 1), some ⟨10, true, [.agg [.int (rdFV l rLo rHi 0), .int (rdFV l rLo rHi 1), .int (rdFV l rLo rHi 2), .int (rdFV l rLo rHi 3), .int (rdFV l rLo rHi 4), .int (rdFV l rLo rHi 5), .int 0, .int 0, .int 0, .v (.slice none 0 0)]]⟩]) rfl rfl)) ?_
 refine rs rfl rfl (ok_move (.inl rfl)) ?_
 refine ro rfl rfl (ok_call rfl rfl rfl (((num_ok l (rdF l rLo rHi 7).1 (rdF l rLo rHi 7).2 hB (hp 7) hl).passRP rfl rfl rfl (fun _ => rfl)).eq (x' := .int (rdFV l rLo rHi 7)) (H'' := [some ZB, some (R l (rdF l rLo rHi 8).1 (rdF l rLo rHi 8).2), some (PB 1), some ⟨10, true, [.agg [.int (rdFV l rLo rHi 0), .int (rdFV l rLo rHi 1), .int (rdFV l rLo rHi 2), .int (rdFV l rLo rHi 3), .int (rdFV l rLo rHi 4), .int (rdFV l rLo rHi 5), .int 0, .int 0, .int 0, .v (.slice none 0 0)]]⟩]) rfl rfl)) ?_
 refine rs rfl rfl (ok_move (.inl rfl)) ?_
 refine ro rfl rfl (ok_call rfl rfl rfl (((num_ok l (rdF l rLo rHi 8).1 (rdF l rLo rHi 8).2 hB (hp 8) hl).passRP rfl rfl rfl (fun _ => rfl)).eq (x' := .int (rdFV l rLo rHi 8)) (H'' := [some ZB, some (R l (rdF l rLo rHi 9).1 (rdF l rLo rHi 9).2), some (PB 1), some ⟨10, true, [.agg [.int (rdFV l rLo rHi 0), .int (rdFV l rLo rHi 1), .int (rdFV l rLo rHi 2), .int (rdFV l rLo rHi 3), .int (rdFV l rLo rHi 4), .int (rdFV l rLo rHi 5), .int 0, .int 0, .int 0, .v (.slice none 0 0)]]⟩]) rfl rfl)) ?_
 refine rs rfl rfl (ok_fieldAddr rfl ti_api_Rec rfl rfl ti_int (by decide) rfl) ?_
 refine rs rfl rfl (ok_store rfl ti_int (by decide) rfl rfl rfl rfl rfl (by first | exact Nat.le_of_ble_eq_true rfl | simp) (by first | exact .inl ⟨rfl, rfl⟩ | exact .inr rfl)) ?_
 refine rs rfl rfl (ok_fieldAddr rfl ti_api_Rec rfl rfl ti_int (by decide) rfl) ?_
 refine rs rfl rfl (ok_store rfl ti_int (by decide) rfl rfl rfl rfl rfl (by first | exact Nat.le_of_ble_eq_true rfl | simp) (by first | exact .inl ⟨rfl, rfl⟩ | exact .inr rfl)) ?_
 refine rs rfl rfl (ok_fieldAddr rfl ti_api_Rec rfl rfl ti_int (by decide) rfl) ?_
 refine rs rfl rfl (ok_store rfl ti_int (by decide) rfl rfl rfl rfl rfl (by first | exact Nat.le_of_ble_eq_true rfl | simp) (by first | exact .inl ⟨rfl, rfl⟩ | exact .inr rfl)) ?_
 refine ro_nil ?_
 refine keepK hK7 [2, 4, 6] (by dsimp) (by dsimp) ?_
 refine T.seq fun K8 hK8 => ?_
 refine T.region ?_
 refine rs rfl rfl (ok_load rfl ti_Ppack_Reader rfl rfl) ?_
 refine ro rfl rfl (ok_call rfl rfl rfl (((bytes_ok l (rdF l rLo rHi 9).1 (rdF l rLo rHi 9).2 1048576 hB (hp 9) hl).passR 1 rfl rfl (fun _ => by simp [AV.ren, renL_ints])).eq (x' := .fz 1 (ints .u8 (rBody l).2.2)) (H'' := [some ZB, some (R l (rBody l).1 (rBody l).2.1), some (PB 1), some ⟨10, true, [.agg [.int (rdFV l rLo rHi 0), .int (rdFV l rLo rHi 1), .int (rdFV l rLo rHi 2), .int (rdFV l rLo rHi 3), .int (rdFV l rLo rHi 4), .int (rdFV l rLo rHi 5), .int (rdFV l rLo rHi 6), .int (rdFV l rLo rHi 7), .int (rdFV l rLo rHi 8), .v (.slice none 0 0)]]⟩]) rfl rfl)) ?_
 refine rs rfl rfl (ok_fieldAddr rfl ti_api_Rec rfl rfl ti_Luint8 (by decide) rfl) ?_
 refine rs rfl rfl (ok_store rfl ti_Luint8 (by decide) rfl rfl rfl rfl rfl (by first | exact Nat.le_of_ble_eq_true rfl | simp) (by first | exact .inl ⟨rfl, rfl⟩ | exact .inr rfl)) ?_
 refine ro_nil ?_
 refine keepK hK8 [2, 4, 6] (by dsimp) (by dsimp) ?_
 refine T.seq fun K9 hK9 => ?_
 refine T.draw mixed (SH [] (HeldL ([none, some (R l (rBody l).1 (rBody l).2.1), some (PB 1), some (RcB (xr l))]))) ?_
 refine any_take 0 rfl (by first | rfl | decide +kernel) rfl (by first | (simp [HeldL]; done) | (simp only [dH]; (repeat' first | trivial | rfl | constructor))) (fun H' hH => OpOk.step (ok_load rfl ti_api_Rec (locA_held hH rfl) rfl)) ?_
 refine any_take 1 rfl (by first | rfl | decide +kernel) rfl (by first | (simp [HeldL]; done) | (simp only [dH]; (repeat' first | trivial | rfl | constructor))) (fun H' hH => OpOk.step (ok_load rfl ti_Ppack_Reader (locA_held hH rfl) rfl)) ?_
 refine any_one 2 rfl (by first | rfl | decide +kernel) rfl rfl (ok_call rfl rfl rfl (((err_ok l (rBody l).1 (rBody l).2.1).passR 1 rfl rfl (fun _ => rfl)).eq (x' := .int (rBody l).2.1) (H'' := [some ZB, some (R l (rBody l).1 (rBody l).2.1), some (PB 1), some (RcB (xr l))]) rfl rfl)) (.inr (by first | (simp [HeldL]; done) | (simp only [dH]; (repeat' first | trivial | rfl | constructor)))) ?_
 refine any_take 3 rfl (by first | rfl | decide +kernel) rfl (by first | (simp [HeldL]; done) | (simp only [dH]; (repeat' first | trivial | rfl | constructor))) (fun H' hH => OpOk.step (ok_binOp rfl ti_api_Errno rfl)) ?_
 refine any_take_case 4 rfl (by first | rfl | decide +kernel) rfl (by first | (simp [HeldL]; done) | (simp only [dH]; (repeat' first | trivial | rfl | constructor))) (fun H' hH => OpOk.step (ok_moveb (.inl rfl) rfl)) (fun hb => ?_) (fun hb => ?_)
 ·(try simp only [dE] at hb)
  refine any_take 5 rfl (by first | rfl | decide +kernel) rfl (by first | (simp [HeldL]; done) | (simp only [dH]; (repeat' first | trivial | rfl | constructor))) (fun H' hH => OpOk.step (ok_load rfl ti_Ppack_Reader (locA_held hH rfl) rfl)) ?_
  refine any_one 6 rfl (by first | rfl | decide +kernel) rfl rfl (ok_call rfl rfl rfl (((left_ok l (rBody l).1 (rBody l).2.1 hb9 hl).passR 1 rfl rfl (fun _ => rfl)).eq (x' := .int ((l.length : Int) - (rBody l).1)) (H'' := [some ZB, some (R l (rBody l).1 (rBody l).2.1), some (PB 1), some (RcB (xr l))]) rfl rfl)) (.inr (by first | (simp [HeldL]; done) | (simp only [dH]; (repeat' first | trivial | rfl | constructor)))) ?_
  refine any_take 7 rfl (by first | rfl | decide +kernel) rfl (by first | (simp [HeldL]; done) | (simp only [dH]; (repeat' first | trivial | rfl | constructor))) (fun H' hH => OpOk.step (ok_binOp rfl ti_int rfl)) ?_
  refine any_take 8 rfl (by first | rfl | decide +kernel) rfl (by first | (simp [HeldL]; done) | (simp only [dH]; (repeat' first | trivial | rfl | constructor))) (fun H' hH => OpOk.step (ok_pick rfl rfl)) ?_
  refine any_one 9 rfl (by first | rfl | decide +kernel) rfl rfl (OpOk.step (ok_store rfl ti_api_Rec (by decide) rfl rfl rfl rfl rfl (by first | exact Nat.le_of_ble_eq_true rfl | simp) (by first | exact .inl ⟨rfl, rfl⟩ | exact .inr rfl))) (.inr (by first | (simp [HeldL]; done) | (simp only [dH]; (repeat' first | trivial | rfl | constructor)))) ?_
  refine any_take 10 rfl (by first | rfl | decide +kernel) rfl (by first | (simp [HeldL]; done) | (simp only [dH]; (repeat' first | trivial | rfl | constructor))) (fun H' hH => OpOk.step (ok_move (.inr rfl))) ?_
  refine any_done rfl ?_
  refine keepK hK9 [2, 3] (by dsimp) (by dsimp) ?_
  refine T.ret (hQ _ _ _ rfl ?_).1 -- ret 1
  exact by first | (have e : decide (parOk l) = false := decide_eq_false (by unfold parOk; omega); rw [e]; exact TEnt.fin [] (by decide) (by simp) rfl ⟨by show AV.ren (pos []) (.tup [.agg (RcC (xr l)), .b _]) = _; simp [AV.ren, renL, RcC_ren], trivial⟩) | (have e : decide (parOk l) = (((l.length : Int) - (rBody l).1) == 0) := (show decide (parOk l) = decide (((l.length : Int) - (rBody l).1) = 0) from decide_eq_decide.2 (by unfold parOk; omega)); rw [e]; exact TEnt.fin [] (by decide) (by simp) rfl ⟨by show AV.ren (pos []) (.tup [.agg (RcC (xr l)), .b _]) = _; simp [AV.ren, renL, RcC_ren], trivial⟩)
 ·(try simp only [dE] at hb)
  refine any_skip 5 rfl (by first | rfl | decide +kernel) rfl (by first | (simp [HeldL]; done) | (simp only [dH]; (repeat' first | trivial | rfl | constructor))) ?_
  refine any_one_skip 6 rfl (by first | rfl | decide +kernel) rfl rfl (.inr (by first | (simp [HeldL]; done) | (simp only [dH]; (repeat' first | trivial | rfl | constructor)))) ?_
  refine any_skip 7 rfl (by first | rfl | decide +kernel) rfl (by first | (simp [HeldL]; done) | (simp only [dH]; (repeat' first | trivial | rfl | constructor))) ?_
  refine any_take 8 rfl (by first | rfl | decide +kernel) rfl (by first | (simp [HeldL]; done) | (simp only [dH]; (repeat' first | trivial | rfl | constructor))) (fun H' hH => OpOk.step (ok_pickb (t := false) (d := false) rfl rfl rfl)) ?_
  refine any_one 9 rfl (by first | rfl | decide +kernel) rfl rfl (OpOk.step (ok_store rfl ti_api_Rec (by decide) rfl rfl rfl rfl rfl (by first | exact Nat.le_of_ble_eq_true rfl | simp) (by first | exact .inl ⟨rfl, rfl⟩ | exact .inr rfl))) (.inr (by first | (simp [HeldL]; done) | (simp only [dH]; (repeat' first | trivial | rfl | constructor)))) ?_
  refine any_take 10 rfl (by first | rfl | decide +kernel) rfl (by first | (simp [HeldL]; done) | (simp only [dH]; (repeat' first | trivial | rfl | constructor))) (fun H' hH => OpOk.step (ok_moveb (c := false) (.inr rfl) rfl)) ?_
  refine any_done rfl ?_
  refine keepK hK9 [2, 3] (by dsimp) (by dsimp) ?_
  refine T.ret (hQ _ _ _ rfl ?_).1 -- ret 2
  exact by first | (have e : decide (parOk l) = false := decide_eq_false (by unfold parOk; omega); rw [e]; exact TEnt.fin [] (by decide) (by simp) rfl ⟨by show AV.ren (pos []) (.tup [.agg (RcC (xr l)), .b _]) = _; simp [AV.ren, renL, RcC_ren], trivial⟩) | (have e : decide (parOk l) = (((l.length : Int) - (rBody l).1) == 0) := (show decide (parOk l) = decide (((l.length : Int) - (rBody l).1) = 0) from decide_eq_decide.2 (by unfold parOk; omega)); rw [e]; exact TEnt.fin [] (by decide) (by simp) rfl ⟨by show AV.ren (pos []) (.tup [.agg (RcC (xr l)), .b _]) = _; simp [AV.ren, renL, RcC_ren], trivial⟩)
theorem ri_good {l : List Int} {p : Nat} {e a b : Int} (h : (ri l p e a b).2.1 = 0) : e = 0 ∧ a ≤ (ri l p e a b).2.2 ∧ (ri l p e a b).2.2 ≤ b := by
  unfold ri at h ⊢
  split at h
  · rename_i h1; exact absurd h h1
  · rename_i h1
    rw [if_neg h1]
    split at h
    · cases h
    · rename_i h2
      rw [if_neg h2]
      split at h
      · cases h
      · rename_i h3
        rw [if_neg h3]
        dsimp only
        omega
def gQ0 (l : List Int) : Nat × Int × Int := ri (l.take 16) 0 0 0 1048656
def gQ1 (l : List Int) : Nat × Int × Int := ri (l.take 16) (gQ0 l).1 (gQ0 l).2.1 (-9223372036854775808) 9223372036854775807
def gN (l : List Int) : Int := (gQ0 l).2.2
def gM (l : List Int) (k : Int) : Int := (16 + gN l + k - 1) / k
def gP (l : List Int) : List Int := (l.take (16 + gN l).toNat).drop 16
def gT (l : List Int) (k : Int) : List Int := (l.take (gM l k * k).toNat).drop (16 + gN l).toNat
/-- The record that bytes begin with, how many blocks it has, the error. -/
def getR (l : List Int) (k : Int) : Rc × Int × Int :=
  if ¬ (1 ≤ k ∧ k ≤ 4096) then (rc0, 0, 1) else if l.length < 16 then (rc0, 0, 14) else if (gQ1 l).2.1 ≠ 0 then (rc0, 0, 13) else if gM l k * k > l.length then (rc0, 0, 14) else if (gQ1 l).2.2 ≠ crcV (gP l) then (rc0, 0, 15) else if ¬ (parOk (gP l) ∧ zeroB (gT l k) = true) then (rc0, 0, 13) else (xr (gP l), gM l k, 0)
section
variable {l : List Int} {k : Int}
theorem getR_1 (h : ¬ (1 ≤ k ∧ k ≤ 4096)) : getR l k = (rc0, 0, 1) := if_pos h
theorem getR_2 (h : 1 ≤ k ∧ k ≤ 4096) (h2 : l.length < 16) : getR l k = (rc0, 0, 14) := by unfold getR; rw [if_neg (by omega), if_pos h2]
theorem getR_3 (h : 1 ≤ k ∧ k ≤ 4096) (h2 : ¬ l.length < 16) (h3 : (gQ1 l).2.1 ≠ 0) : getR l k = (rc0, 0, 13) := by unfold getR; rw [if_neg (by omega), if_neg h2, if_pos h3]
theorem getR_4 (h : 1 ≤ k ∧ k ≤ 4096) (h2 : ¬ l.length < 16) (h3 : ¬ (gQ1 l).2.1 ≠ 0) (h4 : gM l k * k > l.length) : getR l k = (rc0, 0, 14) := by unfold getR; rw [if_neg (by omega), if_neg h2, if_neg h3, if_pos h4]
theorem getR_5 (h : 1 ≤ k ∧ k ≤ 4096) (h2 : ¬ l.length < 16) (h3 : ¬ (gQ1 l).2.1 ≠ 0) (h4 : ¬ gM l k * k > l.length) (h5 : (gQ1 l).2.2 ≠ crcV (gP l)) : getR l k = (rc0, 0, 15) := by unfold getR; rw [if_neg (by omega), if_neg h2, if_neg h3, if_neg h4, if_pos h5]
theorem getR_6 (h : 1 ≤ k ∧ k ≤ 4096) (h2 : ¬ l.length < 16) (h3 : ¬ (gQ1 l).2.1 ≠ 0) (h4 : ¬ gM l k * k > l.length) (h5 : ¬ (gQ1 l).2.2 ≠ crcV (gP l)) (h6 : ¬ (parOk (gP l) ∧ zeroB (gT l k) = true)) : getR l k = (rc0, 0, 13) := by unfold getR; rw [if_neg (by omega), if_neg h2, if_neg h3, if_neg h4, if_neg h5, if_pos h6]
theorem getR_7 (h : 1 ≤ k ∧ k ≤ 4096) (h2 : ¬ l.length < 16) (h3 : ¬ (gQ1 l).2.1 ≠ 0) (h4 : ¬ gM l k * k > l.length) (h5 : ¬ (gQ1 l).2.2 ≠ crcV (gP l)) (h6 : parOk (gP l) ∧ zeroB (gT l k) = true) : getR l k = (xr (gP l), gM l k, 0) := by unfold getR; rw [if_neg (by omega), if_neg h2, if_neg h3, if_neg h4, if_neg h5, if_neg (by simpa using h6)]
theorem gN_bd : 0 ≤ gN l ∧ gN l ≤ 1048656 := by
  unfold gN
  by_cases h : (gQ0 l).2.1 = 0
  · exact (ri_good h).2
  · have : (gQ0 l).2.2 = 0 := by
      unfold gQ0 ri at h ⊢
      split
      · rfl
      · split
        · rfl
        · split
          · rfl
          · rename_i h1 h2 h3
            rw [if_neg h1, if_neg h2, if_neg h3] at h
            exact absurd rfl h
    omega
theorem gM_bd (h : 1 ≤ k ∧ k ≤ 4096) : 0 ≤ gM l k ∧ gM l k ≤ 1052767 ∧ 16 + gN l ≤ gM l k * k ∧ gM l k * k ≤ 16 + gN l + k - 1 := by
  have hn := gN_bd (l := l)
  have h1 := Int.emod_add_mul_ediv (16 + gN l + k - 1) k
  have h2 := Int.emod_nonneg (16 + gN l + k - 1) (show k ≠ 0 by omega)
  have h3 := Int.emod_lt_of_pos (16 + gN l + k - 1) (show 0 < k by omega)
  have h4 := quo_bd (a := 16 + gN l + k - 1) (b := k) (B := 1052767) (by omega) (by omega) (by omega)
  unfold gM
  rw [Int.mul_comm k] at h1
  omega
end
set_option maxHeartbeats 1000000 in
theorem get_ok (l : List Int) (k : Int) (hB : Bytes l) (hl : l.length ≤ 140737488355328) : CSpec Try.prog 13 [] [.fz 1 (ints .u8 l), .int k] [] (.tup [.agg (RcC (getR l k).1), .int (getR l k).2.1, .int (getR l k).2.2]) := by
 refine CSpec.body Try.func13 rfl rfl rfl rfl rfl fun Q hQ => ?_
 refine T.seq fun K1 hK1 => ?_
 refine T.region ?_
 refine rs rfl rfl (ok_alloc rfl ti_api_Rec rfl (by decide)) ?_
 refine rs rfl rfl (ok_move (.inr rfl)) ?_
 refine rs rfl rfl (ok_move (.inr rfl)) ?_
 refine ro_nil ?_
 refine keepK hK1 [0, 1, 4] (by dsimp) (by dsimp) ?_
 refine T.seq fun K2 hK2 => ?_
 refine T.block ?_
 refine T.seq fun K3 hK3 => ?_
 refine T.region ?_
 refine rs rfl rfl (ok_move (.inl rfl)) ?_
 refine ro rfl rfl (ok_call rfl rfl rfl ((fits_ok k).plain rfl rfl)) ?_
 refine rs rfl rfl (ok_unOp rfl rfl) ?_
 refine rs rfl rfl (ok_move (.inr rfl)) ?_
 refine ro_nil ?_
 refine keepK hK3 [0, 1, 4, 13] (by dsimp) (by dsimp) ?_
 refine T.cond rfl (fun hc => ?_) (fun hc => ?_) -- cond 1
 ·(try simp only [dE] at hc)
  refine T.seq fun K4 hK4 => ?_
  refine T.region ?_
  refine rs rfl rfl (ok_build rfl ti_api_Rec rfl) ?_
  refine rs rfl rfl (ok_store rfl ti_api_Rec (by decide) rfl rfl rfl rfl rfl (by first | exact Nat.le_of_ble_eq_true rfl | simp) (by first | exact .inl ⟨rfl, rfl⟩ | exact .inr rfl)) ?_
  refine rs rfl rfl (ok_move (.inr rfl)) ?_
  refine rs rfl rfl (ok_move (.inr rfl)) ?_
  refine ro_nil ?_
  refine keepK hK4 [4, 5, 6] (by dsimp) (by dsimp) ?_
  refine T.ret (hQ _ _ _ rfl ?_).1 -- ret 1
  exact by first | (rw [getR_1 (by assumption)]; exact ((TEnt.put1 0 (x' := .tup [.agg (RcC rc0), .int 0, .int 1]) (by show Ent _ (.tup [.agg [.int 0, .int 0, .int 0, .int 0, .int 0, .int 0, .int 0, .int 0, .int 0, .v (.slice none 0 0)], .int 0, .int _]) _; exact Ent.tup (EntL.cons rc0_view (EntL.refl _)))).trans (TEnt.fin [] (by decide) (by simp) rfl ⟨by simp [AV.ren, renL, RcC_ren], trivial⟩))) | (rw [getR_2 (by assumption) (by omega)]; exact ((TEnt.put1 0 (x' := .tup [.agg (RcC rc0), .int 0, .int 14]) (by show Ent _ (.tup [.agg [.int 0, .int 0, .int 0, .int 0, .int 0, .int 0, .int 0, .int 0, .int 0, .v (.slice none 0 0)], .int 0, .int _]) _; exact Ent.tup (EntL.cons rc0_view (EntL.refl _)))).trans (TEnt.fin [] (by decide) (by simp) rfl ⟨by simp [AV.ren, renL, RcC_ren], trivial⟩))) | (rw [getR_3 (by assumption) (by assumption) (by assumption)]; exact ((TEnt.put1 0 (x' := .tup [.agg (RcC rc0), .int 0, .int 13]) (by show Ent _ (.tup [.agg [.int 0, .int 0, .int 0, .int 0, .int 0, .int 0, .int 0, .int 0, .int 0, .v (.slice none 0 0)], .int 0, .int _]) _; exact Ent.tup (EntL.cons rc0_view (EntL.refl _)))).trans (TEnt.fin [] (by decide) (by simp) rfl ⟨by simp [AV.ren, renL, RcC_ren], trivial⟩))) | (rw [getR_4 (by assumption) (by assumption) (by assumption) (by assumption)]; exact ((TEnt.put1 0 (x' := .tup [.agg (RcC rc0), .int 0, .int 14]) (by show Ent _ (.tup [.agg [.int 0, .int 0, .int 0, .int 0, .int 0, .int 0, .int 0, .int 0, .int 0, .v (.slice none 0 0)], .int 0, .int _]) _; exact Ent.tup (EntL.cons rc0_view (EntL.refl _)))).trans (TEnt.fin [] (by decide) (by simp) rfl ⟨by simp [AV.ren, renL, RcC_ren], trivial⟩))) | (rw [getR_5 (by assumption) (by assumption) (by assumption) (by assumption) (by simpa using hc)]; exact ((TEnt.put1 0 (x' := .tup [.agg (RcC rc0), .int 0, .int 15]) (by show Ent _ (.tup [.agg [.int 0, .int 0, .int 0, .int 0, .int 0, .int 0, .int 0, .int 0, .int 0, .v (.slice none 0 0)], .int 0, .int _]) _; exact Ent.tup (EntL.cons rc0_view (EntL.refl _)))).trans (TEnt.fin [] (by decide) (by simp) rfl ⟨by simp [AV.ren, renL, RcC_ren], trivial⟩))) | (rw [getR_6 (by assumption) (by assumption) (by assumption) (by assumption) (by assumption) (by simp_all)]; exact ((TEnt.put1 0 (x' := .tup [.agg (RcC rc0), .int 0, .int 13]) (by show Ent _ (.tup [.agg [.int 0, .int 0, .int 0, .int 0, .int 0, .int 0, .int 0, .int 0, .int 0, .v (.slice none 0 0)], .int 0, .int _]) _; exact Ent.tup (EntL.cons rc0_view (EntL.refl _)))).trans (TEnt.fin [] (by decide) (by simp) rfl ⟨by simp [AV.ren, renL, RcC_ren], trivial⟩))) | (rw [getR_7 (by assumption) (by assumption) (by assumption) (by assumption) (by assumption) (by simp_all)]; exact TEnt.fin [] (by decide) (by simp) rfl ⟨by show AV.ren (pos []) (.tup [.agg (RcC (xr (gP l))), .int _, .int _]) = _; simp [AV.ren, renL, RcC_ren], trivial⟩)
 ·(try simp only [dE] at hc)
  have hk := hc
  refine T.seq fun K5 hK5 => ?_
  refine T.region ?_
  refine rs rfl rfl (ok_move (.inl rfl)) ?_
  refine rs rfl rfl (ok_len' rfl rfl ti_Luint8 rfl (by first | exact ints_length _ _ | exact rowsA_length _ _ | exact Cms_len _ | exact mapLen _ | rfl)) ?_
  refine rs rfl rfl (ok_binOp rfl ti_int rfl) ?_
  refine rs rfl rfl (ok_move (.inr rfl)) ?_
  refine ro_nil ?_
  refine keepK hK5 [0, 1, 4, 18] (by dsimp) (by dsimp) ?_
  refine T.cond rfl (fun hc => ?_) (fun hc => ?_) -- cond 2
  ·(try simp only [dE] at hc)
   refine T.seq fun K6 hK6 => ?_
   refine T.region ?_
   refine rs rfl rfl (ok_build rfl ti_api_Rec rfl) ?_
   refine rs rfl rfl (ok_store rfl ti_api_Rec (by decide) rfl rfl rfl rfl rfl (by first | exact Nat.le_of_ble_eq_true rfl | simp) (by first | exact .inl ⟨rfl, rfl⟩ | exact .inr rfl)) ?_
   refine rs rfl rfl (ok_move (.inr rfl)) ?_
   refine rs rfl rfl (ok_move (.inr rfl)) ?_
   refine ro_nil ?_
   refine keepK hK6 [4, 5, 6] (by dsimp) (by dsimp) ?_
   refine T.ret (hQ _ _ _ rfl ?_).1 -- ret 2
   exact by first | (rw [getR_1 (by assumption)]; exact ((TEnt.put1 0 (x' := .tup [.agg (RcC rc0), .int 0, .int 1]) (by show Ent _ (.tup [.agg [.int 0, .int 0, .int 0, .int 0, .int 0, .int 0, .int 0, .int 0, .int 0, .v (.slice none 0 0)], .int 0, .int _]) _; exact Ent.tup (EntL.cons rc0_view (EntL.refl _)))).trans (TEnt.fin [] (by decide) (by simp) rfl ⟨by simp [AV.ren, renL, RcC_ren], trivial⟩))) | (rw [getR_2 (by assumption) (by omega)]; exact ((TEnt.put1 0 (x' := .tup [.agg (RcC rc0), .int 0, .int 14]) (by show Ent _ (.tup [.agg [.int 0, .int 0, .int 0, .int 0, .int 0, .int 0, .int 0, .int 0, .int 0, .v (.slice none 0 0)], .int 0, .int _]) _; exact Ent.tup (EntL.cons rc0_view (EntL.refl _)))).trans (TEnt.fin [] (by decide) (by simp) rfl ⟨by simp [AV.ren, renL, RcC_ren], trivial⟩))) | (rw [getR_3 (by assumption) (by assumption) (by assumption)]; exact ((TEnt.put1 0 (x' := .tup [.agg (RcC rc0), .int 0, .int 13]) (by show Ent _ (.tup [.agg [.int 0, .int 0, .int 0, .int 0, .int 0, .int 0, .int 0, .int 0, .int 0, .v (.slice none 0 0)], .int 0, .int _]) _; exact Ent.tup (EntL.cons rc0_view (EntL.refl _)))).trans (TEnt.fin [] (by decide) (by simp) rfl ⟨by simp [AV.ren, renL, RcC_ren], trivial⟩))) | (rw [getR_4 (by assumption) (by assumption) (by assumption) (by assumption)]; exact ((TEnt.put1 0 (x' := .tup [.agg (RcC rc0), .int 0, .int 14]) (by show Ent _ (.tup [.agg [.int 0, .int 0, .int 0, .int 0, .int 0, .int 0, .int 0, .int 0, .int 0, .v (.slice none 0 0)], .int 0, .int _]) _; exact Ent.tup (EntL.cons rc0_view (EntL.refl _)))).trans (TEnt.fin [] (by decide) (by simp) rfl ⟨by simp [AV.ren, renL, RcC_ren], trivial⟩))) | (rw [getR_5 (by assumption) (by assumption) (by assumption) (by assumption) (by simpa using hc)]; exact ((TEnt.put1 0 (x' := .tup [.agg (RcC rc0), .int 0, .int 15]) (by show Ent _ (.tup [.agg [.int 0, .int 0, .int 0, .int 0, .int 0, .int 0, .int 0, .int 0, .int 0, .v (.slice none 0 0)], .int 0, .int _]) _; exact Ent.tup (EntL.cons rc0_view (EntL.refl _)))).trans (TEnt.fin [] (by decide) (by simp) rfl ⟨by simp [AV.ren, renL, RcC_ren], trivial⟩))) | (rw [getR_6 (by assumption) (by assumption) (by assumption) (by assumption) (by assumption) (by simp_all)]; exact ((TEnt.put1 0 (x' := .tup [.agg (RcC rc0), .int 0, .int 13]) (by show Ent _ (.tup [.agg [.int 0, .int 0, .int 0, .int 0, .int 0, .int 0, .int 0, .int 0, .int 0, .v (.slice none 0 0)], .int 0, .int _]) _; exact Ent.tup (EntL.cons rc0_view (EntL.refl _)))).trans (TEnt.fin [] (by decide) (by simp) rfl ⟨by simp [AV.ren, renL, RcC_ren], trivial⟩))) | (rw [getR_7 (by assumption) (by assumption) (by assumption) (by assumption) (by assumption) (by simp_all)]; exact TEnt.fin [] (by decide) (by simp) rfl ⟨by show AV.ren (pos []) (.tup [.agg (RcC (xr (gP l))), .int _, .int _]) = _; simp [AV.ren, renL, RcC_ren], trivial⟩)
  ·(try simp only [dE] at hc)
   have h16 : ¬ l.length < 16 := by omega
   have hn := gN_bd (l := l)
   have hm := gM_bd (l := l) hk
   have h0l : (l.take 16).length = 16 := by simp; omega
   have hB0 : Bytes (l.take 16) := hB.take 16
   have hq0 := ri_le (l := l.take 16) (p := 0) (e := 0) (a := 0) (b := 1048656) (by omega)
   have hq1 := ri_le (l := l.take 16) (p := (gQ0 l).1) (e := (gQ0 l).2.1) (a := -9223372036854775808) (b := 9223372036854775807) hq0
   refine T.skip ?_
   refine keepK hK2 [0, 1, 4] (by dsimp) (by dsimp) ?_
   refine T.seq fun K7 hK7 => ?_
   refine T.region ?_
   refine rs rfl rfl (ok_move (.inl rfl)) ?_
   refine ro rfl rfl (OpOk.step ((ok_slice rfl ti_Luint8 (.inl ⟨_, _, rfl, ti_uint8, rfl⟩) (zl := none) (zh := some 16) rfl rfl rfl (r := .fz 1 (ints .u8 (l.take 16))) (by
  have h1 : (16 : Int) ≤ l.length := by omega
  simp [sliceA, h1, ints, List.map_take])))) ?_
   refine ro rfl rfl (ok_call rfl rfl rfl ((new_ok (l.take 16) (by omega)).fresh (x' := .ref 1 0 0) (H' := [some (R (l.take 16) 0 0)]) (by simp [renL, AV.ren, renL_ints]) rfl (by simp [renH, R_ren]))) ?_
   refine rs rfl rfl (ok_move (.inr rfl)) ?_
   refine ro_nil ?_
   refine keepK hK7 [0, 1, 4, 7] (by dsimp) (by dsimp) ?_
   refine T.seq fun K8 hK8 => ?_
   refine T.region ?_
   refine rs rfl rfl (ok_move (.inl rfl)) ?_
   refine ro rfl rfl (ok_call rfl rfl rfl (((int_ok (l.take 16) 0 0 0 1048656 hB0 (by omega) (by omega)).passR 1 rfl rfl (fun _ => rfl)).eq (x' := .int (gN l)) (H'' := [some ZB, some (R (l.take 16) (gQ0 l).1 (gQ0 l).2.1)]) rfl rfl)) ?_
   refine rs rfl rfl (ok_move (.inl rfl)) ?_
   refine ro rfl rfl (ok_call rfl rfl rfl (((int_ok (l.take 16) (gQ0 l).1 (gQ0 l).2.1 (-9223372036854775808) 9223372036854775807 hB0 hq0 (by omega)).passR 1 rfl rfl (fun _ => rfl)).eq (x' := .int (gQ1 l).2.2) (H'' := [some ZB, some (R (l.take 16) (gQ1 l).1 (gQ1 l).2.1)]) rfl rfl)) ?_
   refine rs rfl rfl (ok_move (.inr rfl)) ?_
   refine rs rfl rfl (ok_move (.inr rfl)) ?_
   refine ro_nil ?_
   refine keepK hK8 [0, 1, 4, 7, 8, 9] (by dsimp) (by dsimp) ?_
   refine T.seq fun K9 hK9 => ?_
   refine T.seq fun K10 hK10 => ?_
   refine T.region ?_
   refine rs rfl rfl (ok_move (.inl rfl)) ?_
   refine ro rfl rfl (ok_call rfl rfl rfl (((err_ok (l.take 16) (gQ1 l).1 (gQ1 l).2.1).passR 1 rfl rfl (fun _ => rfl)).eq (x' := .int (gQ1 l).2.1) (H'' := [some ZB, some (R (l.take 16) (gQ1 l).1 (gQ1 l).2.1)]) rfl rfl)) ?_
   refine rs rfl rfl (ok_binOp rfl ti_api_Errno rfl) ?_
   refine ro_nil ?_
   refine keepK hK10 [0, 1, 4, 8, 9, 32] (by dsimp) (by dsimp) ?_
   refine T.cond rfl (fun hc => ?_) (fun hc => ?_) -- cond 3
   ·(try simp only [dE] at hc)
    refine T.seq fun K11 hK11 => ?_
    refine T.region ?_
    refine rs rfl rfl (ok_build rfl ti_api_Rec rfl) ?_
    refine rs rfl rfl (ok_store rfl ti_api_Rec (by decide) rfl rfl rfl rfl rfl (by first | exact Nat.le_of_ble_eq_true rfl | simp) (by first | exact .inl ⟨rfl, rfl⟩ | exact .inr rfl)) ?_
    refine rs rfl rfl (ok_move (.inr rfl)) ?_
    refine rs rfl rfl (ok_move (.inr rfl)) ?_
    refine ro_nil ?_
    refine keepK hK11 [4, 5, 6] (by dsimp) (by dsimp) ?_
    refine T.ret (hQ _ _ _ rfl ?_).1 -- ret 3
    exact by first | (rw [getR_1 (by assumption)]; exact ((TEnt.put1 0 (x' := .tup [.agg (RcC rc0), .int 0, .int 1]) (by show Ent _ (.tup [.agg [.int 0, .int 0, .int 0, .int 0, .int 0, .int 0, .int 0, .int 0, .int 0, .v (.slice none 0 0)], .int 0, .int _]) _; exact Ent.tup (EntL.cons rc0_view (EntL.refl _)))).trans (TEnt.fin [] (by decide) (by simp) rfl ⟨by simp [AV.ren, renL, RcC_ren], trivial⟩))) | (rw [getR_2 (by assumption) (by omega)]; exact ((TEnt.put1 0 (x' := .tup [.agg (RcC rc0), .int 0, .int 14]) (by show Ent _ (.tup [.agg [.int 0, .int 0, .int 0, .int 0, .int 0, .int 0, .int 0, .int 0, .int 0, .v (.slice none 0 0)], .int 0, .int _]) _; exact Ent.tup (EntL.cons rc0_view (EntL.refl _)))).trans (TEnt.fin [] (by decide) (by simp) rfl ⟨by simp [AV.ren, renL, RcC_ren], trivial⟩))) | (rw [getR_3 (by assumption) (by assumption) (by assumption)]; exact ((TEnt.put1 0 (x' := .tup [.agg (RcC rc0), .int 0, .int 13]) (by show Ent _ (.tup [.agg [.int 0, .int 0, .int 0, .int 0, .int 0, .int 0, .int 0, .int 0, .int 0, .v (.slice none 0 0)], .int 0, .int _]) _; exact Ent.tup (EntL.cons rc0_view (EntL.refl _)))).trans (TEnt.fin [] (by decide) (by simp) rfl ⟨by simp [AV.ren, renL, RcC_ren], trivial⟩))) | (rw [getR_4 (by assumption) (by assumption) (by assumption) (by assumption)]; exact ((TEnt.put1 0 (x' := .tup [.agg (RcC rc0), .int 0, .int 14]) (by show Ent _ (.tup [.agg [.int 0, .int 0, .int 0, .int 0, .int 0, .int 0, .int 0, .int 0, .int 0, .v (.slice none 0 0)], .int 0, .int _]) _; exact Ent.tup (EntL.cons rc0_view (EntL.refl _)))).trans (TEnt.fin [] (by decide) (by simp) rfl ⟨by simp [AV.ren, renL, RcC_ren], trivial⟩))) | (rw [getR_5 (by assumption) (by assumption) (by assumption) (by assumption) (by simpa using hc)]; exact ((TEnt.put1 0 (x' := .tup [.agg (RcC rc0), .int 0, .int 15]) (by show Ent _ (.tup [.agg [.int 0, .int 0, .int 0, .int 0, .int 0, .int 0, .int 0, .int 0, .int 0, .v (.slice none 0 0)], .int 0, .int _]) _; exact Ent.tup (EntL.cons rc0_view (EntL.refl _)))).trans (TEnt.fin [] (by decide) (by simp) rfl ⟨by simp [AV.ren, renL, RcC_ren], trivial⟩))) | (rw [getR_6 (by assumption) (by assumption) (by assumption) (by assumption) (by assumption) (by simp_all)]; exact ((TEnt.put1 0 (x' := .tup [.agg (RcC rc0), .int 0, .int 13]) (by show Ent _ (.tup [.agg [.int 0, .int 0, .int 0, .int 0, .int 0, .int 0, .int 0, .int 0, .int 0, .v (.slice none 0 0)], .int 0, .int _]) _; exact Ent.tup (EntL.cons rc0_view (EntL.refl _)))).trans (TEnt.fin [] (by decide) (by simp) rfl ⟨by simp [AV.ren, renL, RcC_ren], trivial⟩))) | (rw [getR_7 (by assumption) (by assumption) (by assumption) (by assumption) (by assumption) (by simp_all)]; exact TEnt.fin [] (by decide) (by simp) rfl ⟨by show AV.ren (pos []) (.tup [.agg (RcC (xr (gP l))), .int _, .int _]) = _; simp [AV.ren, renL, RcC_ren], trivial⟩)
   ·(try simp only [dE] at hc)
    have h3 : ¬ (gQ1 l).2.1 ≠ 0 := by simpa using hc
    refine T.skip ?_
    refine keepK hK9 [0, 1, 4, 8, 9] (by dsimp) (by dsimp) ?_
    refine T.seq fun K12 hK12 => ?_
    refine T.region ?_
    refine rs rfl rfl (ok_move (.inl rfl)) ?_
    refine rs rfl rfl (ok_add64 rfl ti_int rfl rfl (by omega) (by omega)) ?_
    refine rs rfl rfl (ok_move (.inl rfl)) ?_
    refine rs rfl rfl (ok_add64 rfl ti_int rfl rfl (by omega) (by omega)) ?_
    refine rs rfl rfl (ok_sub64 rfl ti_int rfl rfl (by omega) (by omega)) ?_
    refine rs rfl rfl (ok_move (.inl rfl)) ?_
    refine rs rfl rfl ((ok_quo64 rfl ti_int rfl rfl (by omega) (by omega) (by omega)).eq (x' := .int (gM l k)) rfl rfl) ?_
    refine rs rfl rfl (ok_move (.inr rfl)) ?_
    refine ro_nil ?_
    refine keepK hK12 [0, 1, 4, 5, 8, 9] (by dsimp) (by dsimp) ?_
    refine T.seq fun K13 hK13 => ?_
    refine T.seq fun K14 hK14 => ?_
    refine T.region ?_
    refine rs rfl rfl (ok_move (.inl rfl)) ?_
    refine rs rfl rfl (ok_move (.inl rfl)) ?_
    refine rs rfl rfl (ok_mul64 rfl ti_int rfl rfl (by omega) (by omega)) ?_
    refine rs rfl rfl (ok_move (.inl rfl)) ?_
    refine rs rfl rfl (ok_len' rfl rfl ti_Luint8 rfl (by first | exact ints_length _ _ | exact rowsA_length _ _ | exact Cms_len _ | exact mapLen _ | rfl)) ?_
    refine rs rfl rfl (ok_binOp rfl ti_int rfl) ?_
    refine ro_nil ?_
    refine keepK hK14 [0, 1, 4, 5, 8, 9, 46] (by dsimp) (by dsimp) ?_
    refine T.cond rfl (fun hc => ?_) (fun hc => ?_) -- cond 4
    ·(try simp only [dE] at hc)
     refine T.seq fun K15 hK15 => ?_
     refine T.region ?_
     refine rs rfl rfl (ok_build rfl ti_api_Rec rfl) ?_
     refine rs rfl rfl (ok_store rfl ti_api_Rec (by decide) rfl rfl rfl rfl rfl (by first | exact Nat.le_of_ble_eq_true rfl | simp) (by first | exact .inl ⟨rfl, rfl⟩ | exact .inr rfl)) ?_
     refine rs rfl rfl (ok_move (.inr rfl)) ?_
     refine rs rfl rfl (ok_move (.inr rfl)) ?_
     refine ro_nil ?_
     refine keepK hK15 [4, 5, 6] (by dsimp) (by dsimp) ?_
     refine T.ret (hQ _ _ _ rfl ?_).1 -- ret 4
     exact by first | (rw [getR_1 (by assumption)]; exact ((TEnt.put1 0 (x' := .tup [.agg (RcC rc0), .int 0, .int 1]) (by show Ent _ (.tup [.agg [.int 0, .int 0, .int 0, .int 0, .int 0, .int 0, .int 0, .int 0, .int 0, .v (.slice none 0 0)], .int 0, .int _]) _; exact Ent.tup (EntL.cons rc0_view (EntL.refl _)))).trans (TEnt.fin [] (by decide) (by simp) rfl ⟨by simp [AV.ren, renL, RcC_ren], trivial⟩))) | (rw [getR_2 (by assumption) (by omega)]; exact ((TEnt.put1 0 (x' := .tup [.agg (RcC rc0), .int 0, .int 14]) (by show Ent _ (.tup [.agg [.int 0, .int 0, .int 0, .int 0, .int 0, .int 0, .int 0, .int 0, .int 0, .v (.slice none 0 0)], .int 0, .int _]) _; exact Ent.tup (EntL.cons rc0_view (EntL.refl _)))).trans (TEnt.fin [] (by decide) (by simp) rfl ⟨by simp [AV.ren, renL, RcC_ren], trivial⟩))) | (rw [getR_3 (by assumption) (by assumption) (by assumption)]; exact ((TEnt.put1 0 (x' := .tup [.agg (RcC rc0), .int 0, .int 13]) (by show Ent _ (.tup [.agg [.int 0, .int 0, .int 0, .int 0, .int 0, .int 0, .int 0, .int 0, .int 0, .v (.slice none 0 0)], .int 0, .int _]) _; exact Ent.tup (EntL.cons rc0_view (EntL.refl _)))).trans (TEnt.fin [] (by decide) (by simp) rfl ⟨by simp [AV.ren, renL, RcC_ren], trivial⟩))) | (rw [getR_4 (by assumption) (by assumption) (by assumption) (by assumption)]; exact ((TEnt.put1 0 (x' := .tup [.agg (RcC rc0), .int 0, .int 14]) (by show Ent _ (.tup [.agg [.int 0, .int 0, .int 0, .int 0, .int 0, .int 0, .int 0, .int 0, .int 0, .v (.slice none 0 0)], .int 0, .int _]) _; exact Ent.tup (EntL.cons rc0_view (EntL.refl _)))).trans (TEnt.fin [] (by decide) (by simp) rfl ⟨by simp [AV.ren, renL, RcC_ren], trivial⟩))) | (rw [getR_5 (by assumption) (by assumption) (by assumption) (by assumption) (by simpa using hc)]; exact ((TEnt.put1 0 (x' := .tup [.agg (RcC rc0), .int 0, .int 15]) (by show Ent _ (.tup [.agg [.int 0, .int 0, .int 0, .int 0, .int 0, .int 0, .int 0, .int 0, .int 0, .v (.slice none 0 0)], .int 0, .int _]) _; exact Ent.tup (EntL.cons rc0_view (EntL.refl _)))).trans (TEnt.fin [] (by decide) (by simp) rfl ⟨by simp [AV.ren, renL, RcC_ren], trivial⟩))) | (rw [getR_6 (by assumption) (by assumption) (by assumption) (by assumption) (by assumption) (by simp_all)]; exact ((TEnt.put1 0 (x' := .tup [.agg (RcC rc0), .int 0, .int 13]) (by show Ent _ (.tup [.agg [.int 0, .int 0, .int 0, .int 0, .int 0, .int 0, .int 0, .int 0, .int 0, .v (.slice none 0 0)], .int 0, .int _]) _; exact Ent.tup (EntL.cons rc0_view (EntL.refl _)))).trans (TEnt.fin [] (by decide) (by simp) rfl ⟨by simp [AV.ren, renL, RcC_ren], trivial⟩))) | (rw [getR_7 (by assumption) (by assumption) (by assumption) (by assumption) (by assumption) (by simp_all)]; exact TEnt.fin [] (by decide) (by simp) rfl ⟨by show AV.ren (pos []) (.tup [.agg (RcC (xr (gP l))), .int _, .int _]) = _; simp [AV.ren, renL, RcC_ren], trivial⟩)
    ·(try simp only [dE] at hc)
     have h4 : ¬ gM l k * k > l.length := hc
     refine T.skip ?_
     refine keepK hK13 [0, 1, 4, 5, 8, 9] (by dsimp) (by dsimp) ?_
     refine T.seq fun K16 hK16 => ?_
     refine T.drawH mixed [] ?_
     refine any_take 0 rfl (by first | rfl | decide +kernel) rfl (HeldL.refl _) (fun H' hH => OpOk.step (ok_move (.inl rfl))) ?_
     refine any_take 1 rfl (by first | rfl | decide +kernel) rfl (HeldL.refl _) (fun H' hH => OpOk.step (ok_move (.inl rfl))) ?_
     refine any_take 2 rfl (by first | rfl | decide +kernel) rfl (HeldL.refl _) (fun H' hH => OpOk.step (ok_add64 rfl ti_int rfl rfl (by omega) (by omega))) ?_
     refine any_take 3 rfl (by first | rfl | decide +kernel) rfl (HeldL.refl _) (fun H' hH => OpOk.step ((ok_slice rfl ti_Luint8 (.inl ⟨_, _, rfl, ti_uint8, rfl⟩) (zl := some 16) (zh := some (16 + gN l)) rfl rfl rfl (r := .fz 1 (ints .u8 (gP l))) (sliceA_held hH (by
  have h1 : (16 : Int) ≤ 16 + gN l := by omega
  have h2 : 16 + gN l ≤ l.length := by omega
  have h3 : (16 : Int).toNat = 16 := rfl
  simp [sliceA, h1, h2, gP, ints, List.map_take, List.map_drop, h3]))))) ?_
     refine any_take 4 rfl (by first | rfl | decide +kernel) rfl (HeldL.refl _) (fun H' hH => OpOk.step (ok_move (.inl rfl))) ?_
     refine any_take 5 rfl (by first | rfl | decide +kernel) rfl (HeldL.refl _) (fun H' hH => OpOk.step (ok_move (.inl rfl))) ?_
     refine any_take 6 rfl (by first | rfl | decide +kernel) rfl (HeldL.refl _) (fun H' hH => OpOk.step (ok_add64 rfl ti_int rfl rfl (by omega) (by omega))) ?_
     refine any_take 7 rfl (by first | rfl | decide +kernel) rfl (HeldL.refl _) (fun H' hH => OpOk.step (ok_move (.inl rfl))) ?_
     refine any_take 8 rfl (by first | rfl | decide +kernel) rfl (HeldL.refl _) (fun H' hH => OpOk.step (ok_move (.inl rfl))) ?_
     refine any_take 9 rfl (by first | rfl | decide +kernel) rfl (HeldL.refl _) (fun H' hH => OpOk.step (ok_mul64 rfl ti_int rfl rfl (by omega) (by omega))) ?_
     refine any_take 10 rfl (by first | rfl | decide +kernel) rfl (HeldL.refl _) (fun H' hH => OpOk.step ((ok_slice rfl ti_Luint8 (.inl ⟨_, _, rfl, ti_uint8, rfl⟩) (zl := some (16 + gN l)) (zh := some (gM l k * k)) rfl rfl rfl (r := .fz 1 (ints .u8 (gT l k))) (sliceA_held hH (by
  have h0 : (0 : Int) ≤ 16 + gN l := by omega
  have h1 : 16 + gN l ≤ gM l k * k := by omega
  have h2 : gM l k * k ≤ l.length := by omega
  simp [sliceA, h0, h1, h2, gT, ints, List.map_take, List.map_drop]))))) ?_
     refine any_take 11 rfl (by first | rfl | decide +kernel) rfl (HeldL.refl _) (fun H' hH => OpOk.step (ok_move (.inr rfl))) ?_
     refine any_take 12 rfl (by first | rfl | decide +kernel) rfl (HeldL.refl _) (fun H' hH => OpOk.step (ok_move (.inr rfl))) ?_
     refine any_done rfl ?_
     refine keepK hK16 [4, 5, 9, 10, 11] (by dsimp) (by dsimp) ?_
     refine T.seq fun K17 hK17 => ?_
     refine T.seq fun K18 hK18 => ?_
     have hPl : (gP l).length ≤ l.length := by simp [gP]; omega
     have hTl : (gT l k).length ≤ l.length := by simp [gT]; omega
     have hPB : Bytes (gP l) := (hB.take _).drop _
     refine T.region ?_
     refine rs rfl rfl (ok_move (.inl rfl)) ?_
     refine rs rfl rfl (ok_move (.inl rfl)) ?_
     refine ro rfl rfl (ok_call rfl rfl rfl ((crcOf_ok hPB (by omega)).plain (by simp [renL, AV.ren, renL_ints]) rfl)) ?_
     refine rs rfl rfl ((ok_conv_int rfl ti_uint32 ti_int rfl rfl).eq (x' := .int (crcV (gP l))) (by rw [wrap_crc]) rfl) ?_
     refine rs rfl rfl (ok_binOp rfl ti_int rfl) ?_
     refine ro_nil ?_
     refine keepK hK18 [4, 5, 10, 11, 63] (by dsimp) (by dsimp) ?_
     refine T.cond rfl (fun hc => ?_) (fun hc => ?_) -- cond 5
     ·(try simp only [dE] at hc)
      refine T.seq fun K19 hK19 => ?_
      refine T.region ?_
      refine rs rfl rfl (ok_build rfl ti_api_Rec rfl) ?_
      refine rs rfl rfl (ok_store rfl ti_api_Rec (by decide) rfl rfl rfl rfl rfl (by first | exact Nat.le_of_ble_eq_true rfl | simp) (by first | exact .inl ⟨rfl, rfl⟩ | exact .inr rfl)) ?_
      refine rs rfl rfl (ok_move (.inr rfl)) ?_
      refine rs rfl rfl (ok_move (.inr rfl)) ?_
      refine ro_nil ?_
      refine keepK hK19 [4, 5, 6] (by dsimp) (by dsimp) ?_
      refine T.ret (hQ _ _ _ rfl ?_).1 -- ret 5
      exact by first | (rw [getR_1 (by assumption)]; exact ((TEnt.put1 0 (x' := .tup [.agg (RcC rc0), .int 0, .int 1]) (by show Ent _ (.tup [.agg [.int 0, .int 0, .int 0, .int 0, .int 0, .int 0, .int 0, .int 0, .int 0, .v (.slice none 0 0)], .int 0, .int _]) _; exact Ent.tup (EntL.cons rc0_view (EntL.refl _)))).trans (TEnt.fin [] (by decide) (by simp) rfl ⟨by simp [AV.ren, renL, RcC_ren], trivial⟩))) | (rw [getR_2 (by assumption) (by omega)]; exact ((TEnt.put1 0 (x' := .tup [.agg (RcC rc0), .int 0, .int 14]) (by show Ent _ (.tup [.agg [.int 0, .int 0, .int 0, .int 0, .int 0, .int 0, .int 0, .int 0, .int 0, .v (.slice none 0 0)], .int 0, .int _]) _; exact Ent.tup (EntL.cons rc0_view (EntL.refl _)))).trans (TEnt.fin [] (by decide) (by simp) rfl ⟨by simp [AV.ren, renL, RcC_ren], trivial⟩))) | (rw [getR_3 (by assumption) (by assumption) (by assumption)]; exact ((TEnt.put1 0 (x' := .tup [.agg (RcC rc0), .int 0, .int 13]) (by show Ent _ (.tup [.agg [.int 0, .int 0, .int 0, .int 0, .int 0, .int 0, .int 0, .int 0, .int 0, .v (.slice none 0 0)], .int 0, .int _]) _; exact Ent.tup (EntL.cons rc0_view (EntL.refl _)))).trans (TEnt.fin [] (by decide) (by simp) rfl ⟨by simp [AV.ren, renL, RcC_ren], trivial⟩))) | (rw [getR_4 (by assumption) (by assumption) (by assumption) (by assumption)]; exact ((TEnt.put1 0 (x' := .tup [.agg (RcC rc0), .int 0, .int 14]) (by show Ent _ (.tup [.agg [.int 0, .int 0, .int 0, .int 0, .int 0, .int 0, .int 0, .int 0, .int 0, .v (.slice none 0 0)], .int 0, .int _]) _; exact Ent.tup (EntL.cons rc0_view (EntL.refl _)))).trans (TEnt.fin [] (by decide) (by simp) rfl ⟨by simp [AV.ren, renL, RcC_ren], trivial⟩))) | (rw [getR_5 (by assumption) (by assumption) (by assumption) (by assumption) (by simpa using hc)]; exact ((TEnt.put1 0 (x' := .tup [.agg (RcC rc0), .int 0, .int 15]) (by show Ent _ (.tup [.agg [.int 0, .int 0, .int 0, .int 0, .int 0, .int 0, .int 0, .int 0, .int 0, .v (.slice none 0 0)], .int 0, .int _]) _; exact Ent.tup (EntL.cons rc0_view (EntL.refl _)))).trans (TEnt.fin [] (by decide) (by simp) rfl ⟨by simp [AV.ren, renL, RcC_ren], trivial⟩))) | (rw [getR_6 (by assumption) (by assumption) (by assumption) (by assumption) (by assumption) (by simp_all)]; exact ((TEnt.put1 0 (x' := .tup [.agg (RcC rc0), .int 0, .int 13]) (by show Ent _ (.tup [.agg [.int 0, .int 0, .int 0, .int 0, .int 0, .int 0, .int 0, .int 0, .int 0, .v (.slice none 0 0)], .int 0, .int _]) _; exact Ent.tup (EntL.cons rc0_view (EntL.refl _)))).trans (TEnt.fin [] (by decide) (by simp) rfl ⟨by simp [AV.ren, renL, RcC_ren], trivial⟩))) | (rw [getR_7 (by assumption) (by assumption) (by assumption) (by assumption) (by assumption) (by simp_all)]; exact TEnt.fin [] (by decide) (by simp) rfl ⟨by show AV.ren (pos []) (.tup [.agg (RcC (xr (gP l))), .int _, .int _]) = _; simp [AV.ren, renL, RcC_ren], trivial⟩)
     ·(try simp only [dE] at hc)
      have h5 : ¬ (gQ1 l).2.2 ≠ crcV (gP l) := by simpa using hc
      refine T.skip ?_
      refine keepK hK17 [4, 5, 10, 11] (by dsimp) (by dsimp) ?_
      refine T.seq fun K20 hK20 => ?_
      refine T.region ?_
      refine rs rfl rfl (ok_move (.inl rfl)) ?_
      refine ro rfl rfl (ok_call rfl rfl rfl ((parse_ok (gP l) hPB (by omega)).plain (by simp [renL, AV.ren, renL_ints]) (by simp [AV.ren, renL, RcC_ren]))) ?_
      refine rs rfl rfl (ok_move (.inl rfl)) ?_
      refine rs rfl rfl (ok_extract rfl rfl rfl) ?_
      refine rs rfl rfl (ok_extract rfl rfl rfl) ?_
      refine rs rfl rfl (ok_store rfl ti_api_Rec (by decide) rfl rfl rfl rfl rfl (by first | exact Nat.le_of_ble_eq_true rfl | simp) (by first | exact .inl ⟨rfl, rfl⟩ | exact .inr rfl)) ?_
      refine rs rfl rfl (ok_move (.inr rfl)) ?_
      refine ro_nil ?_
      refine keepK hK20 [4, 5, 11, 12] (by dsimp) (by dsimp) ?_
      refine T.seq fun K21 hK21 => ?_
      refine T.seq fun K22 hK22 => ?_
      refine T.region ?_
      refine rs rfl rfl (ok_move (.inl rfl)) ?_
      refine rs rfl rfl (ok_unOp rfl rfl) ?_
      refine ro_case rfl rfl (OpOk.step (ok_moveb (.inl rfl) rfl)) (fun hb => ?_) (fun hb => ?_)
      ·(try simp only [dE] at hb)
       refine ro_skip rfl rfl ?_
       refine ro_skip rfl rfl ?_
       refine ro_skip rfl rfl ?_
       refine rs rfl rfl (ok_pickb (t := true) (d := true) rfl rfl rfl) ?_
       refine ro_nil ?_
       refine keepK hK22 [4, 5, 76] (by dsimp) (by dsimp) ?_
       refine T.cond_true rfl ?_
       refine T.seq fun K23 hK23 => ?_
       refine T.region ?_
       refine rs rfl rfl (ok_build rfl ti_api_Rec rfl) ?_
       refine rs rfl rfl (ok_store rfl ti_api_Rec (by decide) rfl rfl rfl rfl rfl (by first | exact Nat.le_of_ble_eq_true rfl | simp) (by first | exact .inl ⟨rfl, rfl⟩ | exact .inr rfl)) ?_
       refine rs rfl rfl (ok_move (.inr rfl)) ?_
       refine rs rfl rfl (ok_move (.inr rfl)) ?_
       refine ro_nil ?_
       refine keepK hK23 [4, 5, 6] (by dsimp) (by dsimp) ?_
       refine T.ret (hQ _ _ _ rfl ?_).1 -- ret 6
       exact by first | (rw [getR_1 (by assumption)]; exact ((TEnt.put1 0 (x' := .tup [.agg (RcC rc0), .int 0, .int 1]) (by show Ent _ (.tup [.agg [.int 0, .int 0, .int 0, .int 0, .int 0, .int 0, .int 0, .int 0, .int 0, .v (.slice none 0 0)], .int 0, .int _]) _; exact Ent.tup (EntL.cons rc0_view (EntL.refl _)))).trans (TEnt.fin [] (by decide) (by simp) rfl ⟨by simp [AV.ren, renL, RcC_ren], trivial⟩))) | (rw [getR_2 (by assumption) (by omega)]; exact ((TEnt.put1 0 (x' := .tup [.agg (RcC rc0), .int 0, .int 14]) (by show Ent _ (.tup [.agg [.int 0, .int 0, .int 0, .int 0, .int 0, .int 0, .int 0, .int 0, .int 0, .v (.slice none 0 0)], .int 0, .int _]) _; exact Ent.tup (EntL.cons rc0_view (EntL.refl _)))).trans (TEnt.fin [] (by decide) (by simp) rfl ⟨by simp [AV.ren, renL, RcC_ren], trivial⟩))) | (rw [getR_3 (by assumption) (by assumption) (by assumption)]; exact ((TEnt.put1 0 (x' := .tup [.agg (RcC rc0), .int 0, .int 13]) (by show Ent _ (.tup [.agg [.int 0, .int 0, .int 0, .int 0, .int 0, .int 0, .int 0, .int 0, .int 0, .v (.slice none 0 0)], .int 0, .int _]) _; exact Ent.tup (EntL.cons rc0_view (EntL.refl _)))).trans (TEnt.fin [] (by decide) (by simp) rfl ⟨by simp [AV.ren, renL, RcC_ren], trivial⟩))) | (rw [getR_4 (by assumption) (by assumption) (by assumption) (by assumption)]; exact ((TEnt.put1 0 (x' := .tup [.agg (RcC rc0), .int 0, .int 14]) (by show Ent _ (.tup [.agg [.int 0, .int 0, .int 0, .int 0, .int 0, .int 0, .int 0, .int 0, .int 0, .v (.slice none 0 0)], .int 0, .int _]) _; exact Ent.tup (EntL.cons rc0_view (EntL.refl _)))).trans (TEnt.fin [] (by decide) (by simp) rfl ⟨by simp [AV.ren, renL, RcC_ren], trivial⟩))) | (rw [getR_5 (by assumption) (by assumption) (by assumption) (by assumption) (by simpa using hc)]; exact ((TEnt.put1 0 (x' := .tup [.agg (RcC rc0), .int 0, .int 15]) (by show Ent _ (.tup [.agg [.int 0, .int 0, .int 0, .int 0, .int 0, .int 0, .int 0, .int 0, .int 0, .v (.slice none 0 0)], .int 0, .int _]) _; exact Ent.tup (EntL.cons rc0_view (EntL.refl _)))).trans (TEnt.fin [] (by decide) (by simp) rfl ⟨by simp [AV.ren, renL, RcC_ren], trivial⟩))) | (rw [getR_6 (by assumption) (by assumption) (by assumption) (by assumption) (by assumption) (by simp_all)]; exact ((TEnt.put1 0 (x' := .tup [.agg (RcC rc0), .int 0, .int 13]) (by show Ent _ (.tup [.agg [.int 0, .int 0, .int 0, .int 0, .int 0, .int 0, .int 0, .int 0, .int 0, .v (.slice none 0 0)], .int 0, .int _]) _; exact Ent.tup (EntL.cons rc0_view (EntL.refl _)))).trans (TEnt.fin [] (by decide) (by simp) rfl ⟨by simp [AV.ren, renL, RcC_ren], trivial⟩))) | (rw [getR_7 (by assumption) (by assumption) (by assumption) (by assumption) (by assumption) (by simp_all)]; exact TEnt.fin [] (by decide) (by simp) rfl ⟨by show AV.ren (pos []) (.tup [.agg (RcC (xr (gP l))), .int _, .int _]) = _; simp [AV.ren, renL, RcC_ren], trivial⟩)
      ·(try simp only [dE] at hb)
       refine rs rfl rfl (ok_move (.inl rfl)) ?_
       refine ro rfl rfl (ok_call rfl rfl rfl ((zero_ok (gT l k) (by omega)).plain (by simp [renL, AV.ren, renL_ints]) rfl)) ?_
       refine rs rfl rfl (ok_unOp rfl rfl) ?_
       refine rs rfl rfl (ok_pick rfl rfl) ?_
       refine ro_nil ?_
       refine keepK hK22 [4, 5, 76] (by dsimp) (by dsimp) ?_
       refine T.cond rfl (fun hc => ?_) (fun hc => ?_) -- cond 6
       ·(try simp only [dE] at hc)
        refine T.seq fun K24 hK24 => ?_
        refine T.region ?_
        refine rs rfl rfl (ok_build rfl ti_api_Rec rfl) ?_
        refine rs rfl rfl (ok_store rfl ti_api_Rec (by decide) rfl rfl rfl rfl rfl (by first | exact Nat.le_of_ble_eq_true rfl | simp) (by first | exact .inl ⟨rfl, rfl⟩ | exact .inr rfl)) ?_
        refine rs rfl rfl (ok_move (.inr rfl)) ?_
        refine rs rfl rfl (ok_move (.inr rfl)) ?_
        refine ro_nil ?_
        refine keepK hK24 [4, 5, 6] (by dsimp) (by dsimp) ?_
        refine T.ret (hQ _ _ _ rfl ?_).1 -- ret 7
        exact by first | (rw [getR_1 (by assumption)]; exact ((TEnt.put1 0 (x' := .tup [.agg (RcC rc0), .int 0, .int 1]) (by show Ent _ (.tup [.agg [.int 0, .int 0, .int 0, .int 0, .int 0, .int 0, .int 0, .int 0, .int 0, .v (.slice none 0 0)], .int 0, .int _]) _; exact Ent.tup (EntL.cons rc0_view (EntL.refl _)))).trans (TEnt.fin [] (by decide) (by simp) rfl ⟨by simp [AV.ren, renL, RcC_ren], trivial⟩))) | (rw [getR_2 (by assumption) (by omega)]; exact ((TEnt.put1 0 (x' := .tup [.agg (RcC rc0), .int 0, .int 14]) (by show Ent _ (.tup [.agg [.int 0, .int 0, .int 0, .int 0, .int 0, .int 0, .int 0, .int 0, .int 0, .v (.slice none 0 0)], .int 0, .int _]) _; exact Ent.tup (EntL.cons rc0_view (EntL.refl _)))).trans (TEnt.fin [] (by decide) (by simp) rfl ⟨by simp [AV.ren, renL, RcC_ren], trivial⟩))) | (rw [getR_3 (by assumption) (by assumption) (by assumption)]; exact ((TEnt.put1 0 (x' := .tup [.agg (RcC rc0), .int 0, .int 13]) (by show Ent _ (.tup [.agg [.int 0, .int 0, .int 0, .int 0, .int 0, .int 0, .int 0, .int 0, .int 0, .v (.slice none 0 0)], .int 0, .int _]) _; exact Ent.tup (EntL.cons rc0_view (EntL.refl _)))).trans (TEnt.fin [] (by decide) (by simp) rfl ⟨by simp [AV.ren, renL, RcC_ren], trivial⟩))) | (rw [getR_4 (by assumption) (by assumption) (by assumption) (by assumption)]; exact ((TEnt.put1 0 (x' := .tup [.agg (RcC rc0), .int 0, .int 14]) (by show Ent _ (.tup [.agg [.int 0, .int 0, .int 0, .int 0, .int 0, .int 0, .int 0, .int 0, .int 0, .v (.slice none 0 0)], .int 0, .int _]) _; exact Ent.tup (EntL.cons rc0_view (EntL.refl _)))).trans (TEnt.fin [] (by decide) (by simp) rfl ⟨by simp [AV.ren, renL, RcC_ren], trivial⟩))) | (rw [getR_5 (by assumption) (by assumption) (by assumption) (by assumption) (by simpa using hc)]; exact ((TEnt.put1 0 (x' := .tup [.agg (RcC rc0), .int 0, .int 15]) (by show Ent _ (.tup [.agg [.int 0, .int 0, .int 0, .int 0, .int 0, .int 0, .int 0, .int 0, .int 0, .v (.slice none 0 0)], .int 0, .int _]) _; exact Ent.tup (EntL.cons rc0_view (EntL.refl _)))).trans (TEnt.fin [] (by decide) (by simp) rfl ⟨by simp [AV.ren, renL, RcC_ren], trivial⟩))) | (rw [getR_6 (by assumption) (by assumption) (by assumption) (by assumption) (by assumption) (by simp_all)]; exact ((TEnt.put1 0 (x' := .tup [.agg (RcC rc0), .int 0, .int 13]) (by show Ent _ (.tup [.agg [.int 0, .int 0, .int 0, .int 0, .int 0, .int 0, .int 0, .int 0, .int 0, .v (.slice none 0 0)], .int 0, .int _]) _; exact Ent.tup (EntL.cons rc0_view (EntL.refl _)))).trans (TEnt.fin [] (by decide) (by simp) rfl ⟨by simp [AV.ren, renL, RcC_ren], trivial⟩))) | (rw [getR_7 (by assumption) (by assumption) (by assumption) (by assumption) (by assumption) (by simp_all)]; exact TEnt.fin [] (by decide) (by simp) rfl ⟨by show AV.ren (pos []) (.tup [.agg (RcC (xr (gP l))), .int _, .int _]) = _; simp [AV.ren, renL, RcC_ren], trivial⟩)
       ·(try simp only [dE] at hc)
        refine T.skip ?_
        refine keepK hK21 [4, 5] (by dsimp) (by dsimp) ?_
        refine T.seq fun K25 hK25 => ?_
        refine T.region ?_
        refine rs rfl rfl (ok_load rfl ti_api_Rec rfl rfl) ?_
        refine rs rfl rfl (ok_move (.inl rfl)) ?_
        refine rs rfl rfl (ok_store rfl ti_api_Rec (by decide) rfl rfl rfl rfl rfl (by first | exact Nat.le_of_ble_eq_true rfl | simp) (by first | exact .inl ⟨rfl, rfl⟩ | exact .inr rfl)) ?_
        refine rs rfl rfl (ok_move (.inr rfl)) ?_
        refine rs rfl rfl (ok_move (.inr rfl)) ?_
        refine ro_nil ?_
        refine keepK hK25 [4, 5, 6] (by dsimp) (by dsimp) ?_
        refine T.ret (hQ _ _ _ rfl ?_).1 -- ret 8
        exact by first | (rw [getR_1 (by assumption)]; exact ((TEnt.put1 0 (x' := .tup [.agg (RcC rc0), .int 0, .int 1]) (by show Ent _ (.tup [.agg [.int 0, .int 0, .int 0, .int 0, .int 0, .int 0, .int 0, .int 0, .int 0, .v (.slice none 0 0)], .int 0, .int _]) _; exact Ent.tup (EntL.cons rc0_view (EntL.refl _)))).trans (TEnt.fin [] (by decide) (by simp) rfl ⟨by simp [AV.ren, renL, RcC_ren], trivial⟩))) | (rw [getR_2 (by assumption) (by omega)]; exact ((TEnt.put1 0 (x' := .tup [.agg (RcC rc0), .int 0, .int 14]) (by show Ent _ (.tup [.agg [.int 0, .int 0, .int 0, .int 0, .int 0, .int 0, .int 0, .int 0, .int 0, .v (.slice none 0 0)], .int 0, .int _]) _; exact Ent.tup (EntL.cons rc0_view (EntL.refl _)))).trans (TEnt.fin [] (by decide) (by simp) rfl ⟨by simp [AV.ren, renL, RcC_ren], trivial⟩))) | (rw [getR_3 (by assumption) (by assumption) (by assumption)]; exact ((TEnt.put1 0 (x' := .tup [.agg (RcC rc0), .int 0, .int 13]) (by show Ent _ (.tup [.agg [.int 0, .int 0, .int 0, .int 0, .int 0, .int 0, .int 0, .int 0, .int 0, .v (.slice none 0 0)], .int 0, .int _]) _; exact Ent.tup (EntL.cons rc0_view (EntL.refl _)))).trans (TEnt.fin [] (by decide) (by simp) rfl ⟨by simp [AV.ren, renL, RcC_ren], trivial⟩))) | (rw [getR_4 (by assumption) (by assumption) (by assumption) (by assumption)]; exact ((TEnt.put1 0 (x' := .tup [.agg (RcC rc0), .int 0, .int 14]) (by show Ent _ (.tup [.agg [.int 0, .int 0, .int 0, .int 0, .int 0, .int 0, .int 0, .int 0, .int 0, .v (.slice none 0 0)], .int 0, .int _]) _; exact Ent.tup (EntL.cons rc0_view (EntL.refl _)))).trans (TEnt.fin [] (by decide) (by simp) rfl ⟨by simp [AV.ren, renL, RcC_ren], trivial⟩))) | (rw [getR_5 (by assumption) (by assumption) (by assumption) (by assumption) (by simpa using hc)]; exact ((TEnt.put1 0 (x' := .tup [.agg (RcC rc0), .int 0, .int 15]) (by show Ent _ (.tup [.agg [.int 0, .int 0, .int 0, .int 0, .int 0, .int 0, .int 0, .int 0, .int 0, .v (.slice none 0 0)], .int 0, .int _]) _; exact Ent.tup (EntL.cons rc0_view (EntL.refl _)))).trans (TEnt.fin [] (by decide) (by simp) rfl ⟨by simp [AV.ren, renL, RcC_ren], trivial⟩))) | (rw [getR_6 (by assumption) (by assumption) (by assumption) (by assumption) (by assumption) (by simp_all)]; exact ((TEnt.put1 0 (x' := .tup [.agg (RcC rc0), .int 0, .int 13]) (by show Ent _ (.tup [.agg [.int 0, .int 0, .int 0, .int 0, .int 0, .int 0, .int 0, .int 0, .int 0, .v (.slice none 0 0)], .int 0, .int _]) _; exact Ent.tup (EntL.cons rc0_view (EntL.refl _)))).trans (TEnt.fin [] (by decide) (by simp) rfl ⟨by simp [AV.ren, renL, RcC_ren], trivial⟩))) | (rw [getR_7 (by assumption) (by assumption) (by assumption) (by assumption) (by assumption) (by simp_all)]; exact TEnt.fin [] (by decide) (by simp) rfl ⟨by show AV.ren (pos []) (.tup [.agg (RcC (xr (gP l))), .int _, .int _]) = _; simp [AV.ren, renL, RcC_ren], trivial⟩)

end Go.Proofs.Ytjklgbafnfoolaa.AmF
namespace Go.Proofs.Ytjklgbafnfoolaa.AmF
open Go Go.AM
set_option maxRecDepth 100000
set_option linter.unusedSimpArgs false
set_option linter.unusedVariables false
theorem RZ_unw {c : Cf} {rb rb' : Bool} {z : Zn} (h : RZ c rb z) : RZ c rb' (unw z) := by
  obtain ⟨h1, h2, h3, h4, h5, h6, h7, h8⟩ := h
  exact ⟨h1, h2, h3, h4, fun h => by simp [unw] at h, h6, h7, h8⟩
theorem odd_set {st : List Int} {x : Rc} (h : st.countP oddP ≤ 1) (hx : StOk st x) : (st.set x.member.toNat x.status).countP oddP ≤ 1 := by
  obtain ⟨⟨h1, h2⟩, h3, h4⟩ := hx
  have hlt : x.member.toNat < st.length := by omega
  rw [List.countP_set hlt]
  by_cases ho : fIdx oddP st < 0
  · have h0 : st.countP oddP = 0 := by
      rw [List.countP_eq_zero]
      intro y hy hp
      have := (fIdx_iff oddP st).2 ⟨y, hy, hp⟩
      omega
    rw [h0]
    split <;> split <;> omega
  · have e : oddS st = (fIdx oddP st, st.getD (fIdx oddP st).toNat 0, true) := if_neg ho
    rw [e] at h4
    have h5 := h4 rfl
    have hp : oddP st[x.member.toNat] = true := by
      have h6 : st.findIdx? oddP = some x.member.toNat := by
        unfold fIdx at h5 ho
        split at h5
        · rename_i i hi
          rw [hi]
          simp at h5
          congr 1
          omega
        · simp at h5; omega
      exact (List.findIdx?_eq_some_iff_getElem.1 h6).2.1
    rw [if_pos hp]
    split <;> omega
theorem DS_unw {zs : List Zn} (h : DS zs) : DS (zs.map unw) := by
  unfold DS at *
  rw [List.pairwise_map]
  exact h
theorem DS_set {zs : List Zn} {j : Nat} {z z' : Zn} (h : DS zs) (hz : zs[j]? = some z) (h' : z'.slot = -1 ∨ z'.slot = z.slot ∨ ∀ y ∈ zs, y.slot ≠ z'.slot) : DS (zs.set j z') := by
  unfold DS at *
  rw [List.pairwise_iff_getElem] at *
  obtain ⟨hj, hz⟩ := List.getElem?_eq_some_iff.1 hz
  intro a b ha hb hab
  rw [List.length_set] at ha hb
  have hab' := h a b ha hb hab
  rw [List.getElem_set, List.getElem_set]
  split
  · rename_i e
    subst e
    rw [if_neg (by omega)]
    intro e
    rcases h' with h' | h' | h'
    · omega
    · rw [hz] at hab'; exact hab' (by omega)
    · exact absurd e.symm (h' _ (List.getElem_mem hb))
  · split
    · rename_i e
      subst e
      intro e
      rcases h' with h' | h' | h'
      · exact h'
      · rw [hz] at hab'; rw [h'] at e ⊢; exact hab' e
      · exact absurd e (h' _ (List.getElem_mem ha))
    · exact hab'
theorem last2_mem {l : List Pr} {p : Pr} (h : p ∈ last2 l) : p ∈ l := List.mem_of_mem_drop h
theorem last2_two (l : List Pr) : (last2 l).length ≤ 2 := by unfold last2; rw [List.length_drop]; omega
theorem RZ_step {c : Cf} {zs : List Zn} {rb : Bool} {z z' : Zn} {x : Rc} (h : RZ c rb z) (hz : z ∈ zs) (hs : stepZ c zs rb z x = some z') : RZ c rb z' ∧ (z'.slot = -1 ∨ z'.slot = z.slot ∨ ∀ y ∈ zs, y.slot ≠ z'.slot) := by
  obtain ⟨h1, h2, h3, h4, h5, h6, h7, h8⟩ := h
  by_cases k1 : x.kind = 1
  · rw [stepZ_1 k1] at hs
    split at hs
    · rename_i hz1
      cases hs
      obtain ⟨a1, a2, a3, a4⟩ := hz1
      rw [freeZ_mem] at a4
      have a5 : ∀ y ∈ zs, y.slot ≠ x.slot := by
        intro y hy e
        have := (hasZ_seen zs x.slot).2 ⟨y, hy, e⟩
        rw [a4.2] at this
        cases this
      refine ⟨⟨h1, ⟨by show -1 ≤ x.slot; omega, a4.1.2⟩, h3, fun hw => ⟨(h4 hw).1, by show x.slot ≠ -1; omega⟩, fun hw => ⟨by show x.slot ≠ -1; omega, hw⟩, h6, fun _ => by show x.slot ≠ -1; omega, h8⟩, .inr (.inr a5)⟩
    · cases hs
  by_cases k2 : x.kind = 2
  · rw [stepZ_2 k2] at hs
    split at hs
    · rename_i hz1
      cases hs
      obtain ⟨a1, a2⟩ := hz1
      refine ⟨⟨⟨by show 0 ≤ x.gen; omega, a2⟩, ⟨by show (-1 : Int) ≤ -1; omega, by have := slots_bd c; show (-1 : Int) < _; omega⟩, ⟨by show (0 : Int) ≤ 0; omega, by show (0 : Int) ≤ sizeC c; omega⟩, fun hw => by simp at hw, fun hw => by simp at hw, by simp, fun hw => by simp at hw, fun p hp => by simp at hp⟩, .inl rfl⟩
    · cases hs
  by_cases k3 : x.kind = 3
  · rw [stepZ_3 k3] at hs
    split at hs
    · rename_i hz1
      cases hs
      obtain ⟨a1, a2, a3⟩ := hz1
      refine ⟨⟨h1, h2, a2, fun hw => ⟨rfl, fun e => by have := a3 e; have : 0 < x.w := hw; omega⟩, h5, h6, h7, h8⟩, .inr (.inl rfl)⟩
    · cases hs
  by_cases k4 : x.kind = 4
  · rw [stepZ_4 k4] at hs
    split at hs
    · rename_i hz1
      cases hs
      obtain ⟨a1, a2, a3, a4, a5⟩ := hz1
      refine ⟨⟨h1, h2, h3, h4, h5, last2_two _, fun _ => a1, fun p hp => ?_⟩, .inr (.inl rfl)⟩
      rcases List.mem_append.1 (last2_mem hp) with hp | hp
      · exact h8 p hp
      · rw [List.mem_singleton.1 hp]; exact ⟨a4, a5⟩
    · cases hs
  by_cases k5 : x.kind = 5
  · rw [stepZ_5 k5] at hs
    split at hs
    · rename_i hz1
      cases hs
      exact ⟨⟨h1, h2, h3, h4, fun _ => hz1, h6, h7, h8⟩, .inr (.inl rfl)⟩
    · cases hs
  rw [stepZ_no k1 k2 k3 k4 k5] at hs
  cases hs
/-- A record keeps a state right. -/
theorem RS_step {s t : St} {x : Rc} (h : RS s) (hg : Goes s x) (ht : stepS s x = some t) : RS t := by
  obtain ⟨h1, h2, h3, h4, h5, h6, h7, h8, h9⟩ := h
  obtain ⟨g1, g2, g3⟩ := hg
  by_cases hk : x.kind = 6
  · rw [stepS_st hk] at ht
    split at ht
    · rename_i ho
      cases ht
      refine ⟨h1, h2, ⟨by show 0 ≤ x.seq; omega, g3⟩, by show ((s.st.set _ _).length : Int) = _; rw [List.length_set]; exact h4, by show ((s.zs.map unw).length : Int) = _; rw [List.length_map]; exact h5, ?_, odd_set h7 ho, ?_, DS_unw h9⟩
      · intro n hn
        rcases List.mem_or_eq_of_mem_set hn with hn | rfl
        · exact h6 n hn
        · exact ho.2.1
      · intro z hz
        obtain ⟨y, hy, rfl⟩ := List.mem_map.1 hz
        exact RZ_unw (h8 y hy)
    · cases ht
  · by_cases hzn : 0 ≤ x.zone ∧ x.zone < s.zs.length
    · obtain ⟨z, hz⟩ : ∃ z, s.zs[x.zone.toNat]? = some z := ⟨_, List.getElem?_eq_getElem (by omega)⟩
      rw [stepS_zn hk hzn hz, Option.map_eq_some_iff] at ht
      obtain ⟨z', hz', rfl⟩ := ht
      have hm := List.mem_of_getElem? hz
      obtain ⟨r1, r2⟩ := RZ_step (h8 z hm) hm hz'
      refine ⟨h1, h2, ⟨by show 0 ≤ x.seq; omega, g3⟩, h4, by show ((s.zs.set _ _).length : Int) = _; rw [List.length_set]; exact h5, h6, h7, ?_, DS_set h9 hz r2⟩
      intro y hy
      rcases List.mem_or_eq_of_mem_set hy with hy | rfl
      · exact h8 y hy
      · exact r1
    · rw [stepS_no hk hzn] at ht
      cases ht
theorem stepS_c {s t : St} {x : Rc} (ht : stepS s x = some t) : t.c = s.c := by
  unfold stepS at ht
  repeat' split at ht
  all_goals first | (cases ht; done) | (cases ht; rfl) | (rw [Option.map_eq_some_iff] at ht; obtain ⟨z', _, rfl⟩ := ht; rfl)
/-- A record more: the state behind it. -/
def nextS (s : St) (x : Rc) : St := if (applyS s x).2 = 0 then (applyS s x).1 else s
theorem RS_new {c : Cf} (h : chkC c = 0) : RS (newS c) := by
  have hk := chkC_ok h
  have hm := hk.2.1
  have hz : 0 ≤ c.zon := by unfold okC at hk; omega
  have hb := slots_bd c
  refine ⟨h, ⟨by show (1 : Int) ≤ 1; omega, by show (1 : Int) ≤ _; omega⟩, ⟨by show (0 : Int) ≤ 0; omega, by show (0 : Int) ≤ _; omega⟩, ?_, ?_, ?_, ?_, ?_, ?_⟩
  · show ((List.replicate c.mem.toNat (0 : Int)).length : Int) = c.mem
    rw [List.length_replicate]; omega
  · show ((List.replicate c.zon.toNat z0).length : Int) = c.zon
    rw [List.length_replicate]; omega
  · intro n hn
    rw [List.eq_of_mem_replicate hn]; omega
  · show (List.replicate c.mem.toNat (0 : Int)).countP oddP ≤ 1
    rw [List.countP_replicate, if_neg (by decide)]; omega
  · intro z hz'
    rw [List.eq_of_mem_replicate hz']
    have hs : 0 ≤ sizeC c := (size_bd c).2.2.2.2.1
    exact ⟨by decide, ⟨by decide, by show (-1 : Int) < slotsC c; omega⟩, ⟨by decide, hs⟩, fun hw => by simp [z0] at hw, fun hw => by simp [z0] at hw, by decide, fun hw => by simp [z0] at hw, fun p hp => by simp [z0] at hp⟩
  · show DS (List.replicate c.zon.toNat z0)
    unfold DS
    rw [List.pairwise_replicate]
    exact .inr fun _ => rfl
/-- The record as the state wants it. -/
def atS (s : St) (x : Rc) : Rc := { x with epoch := s.ep, seq := s.sq + 1 }
/-- The state behind so many records. -/
def runS (s : St) (l : List Rc) : Nat → St
  | 0 => s
  | i + 1 => match l[i]? with
    | some x => nextS (runS s l i) (atS (runS s l i) x)
    | none => runS s l i
theorem RS_few {s : St} (h : RS s) : s.st.length ≤ 16 ∧ s.zs.length ≤ 64 ∧ (∀ z ∈ s.zs, z.pars.length ≤ 2) ∧ ∀ z ∈ s.zs, ∀ p ∈ z.pars, p.b.length ≤ 140737488355328 := by
  obtain ⟨h1, h2, h3, h4, h5, h6, h7, h8, h9⟩ := h
  have hk := chkC_ok h1
  have hu := hk.2.2.1
  have hb := hk.2.2.2.1
  refine ⟨by have := hk.2.1; omega, by unfold okC at hk; omega, fun z hz => (h8 z hz).2.2.2.2.2.1, fun z hz p hp => ?_⟩
  have hp := (h8 z hz).2.2.2.2.2.2.2 p hp
  have h10 : s.c.unit * s.c.blk ≤ 64 * 4096 := Int.mul_le_mul hu.2 hb.2 (by omega) (by omega)
  have := hp.2
  omega
end Go.Proofs.Ytjklgbafnfoolaa.AmF
namespace Go.Proofs.Ytjklgbafnfoolaa.AmF
open Go Go.AM
set_option maxRecDepth 100000
set_option linter.unusedSimpArgs false
set_option linter.unusedVariables false
def ckR (s : St) (m : Int) : Rc := ⟨0, s.ep, s.sq, 0, 0, 0, 0, m, 0, encSt s⟩
/-- A checkpoint's bytes. -/
def firstB (s : St) (m : Int) : List Int := if RS s ∧ 0 ≤ m ∧ m < s.c.mem then putR (ckR s m) s.c.blk else []
/-- The state of a first record. -/
def chkP (x : Rc) (c : Cf) (m : Int) : St × Bool := if x.kind ≠ 0 ∨ x.member ≠ m then (St0, false) else ((getS x.body).1, decide ((getS x.body).2 = 0 ∧ (getS x.body).1.c = c ∧ (getS x.body).1.ep = x.epoch ∧ (getS x.body).1.sq = x.seq))
/-- Records behind so many blocks, as far as they follow. -/
def folN (b : List Int) (k : Int) : Nat → St → Int → Int → St × Int × Int
  | 0, s, cnt, n => (s, cnt, n)
  | f + 1, s, cnt, n => if (getR (b.drop (n * k).toNat) k).2.2 ≠ 0 then (s, cnt, n) else if (applyS s (getR (b.drop (n * k).toNat) k).1).2 ≠ 0 then (s, cnt, n) else folN b k f (applyS s (getR (b.drop (n * k).toNat) k).1).1 (cnt + 1) (n + (getR (b.drop (n * k).toNat) k).2.1)
section
variable {b : List Int} {k : Int} {f : Nat} {s t : St} {cnt n m e e' : Int} {x : Rc}
theorem folN_1 (h : getR (b.drop (n * k).toNat) k = (x, m, e)) (he : e ≠ 0) : folN b k (f + 1) s cnt n = (s, cnt, n) := by rw [folN, h, if_pos he]
theorem folN_2 (h : getR (b.drop (n * k).toNat) k = (x, m, 0)) (ha : applyS s x = (t, e)) (he : e ≠ 0) : folN b k (f + 1) s cnt n = (s, cnt, n) := by
  rw [folN, h, if_neg (by simp)]
  dsimp only
  rw [ha, if_pos he]
theorem folN_3 (h : getR (b.drop (n * k).toNat) k = (x, m, 0)) (ha : applyS s x = (t, 0)) : folN b k (f + 1) s cnt n = folN b k f t (cnt + 1) (n + m) := by
  rw [folN, h, if_neg (by simp)]
  dsimp only
  rw [ha, if_neg (by simp)]
end
/-- What bytes say: the state, how many records, how many blocks; the error. -/
def logS (b : List Int) (c : Cf) (m : Int) : (St × Int × Int) × Int :=
  if chkC c ≠ 0 then ((St0, 0, 0), 1)
  else if (getR b c.blk).2.2 ≠ 0 then ((St0, 0, 0), (getR b c.blk).2.2)
  else if (chkP (getR b c.blk).1 c m).2 = false then ((St0, 0, 0), 13)
  else (folN b c.blk (b.length + 1) (chkP (getR b c.blk).1 c m).1 0 (getR b c.blk).2.1, 0)
section
variable {b : List Int} {c : Cf} {m n e : Int} {x : Rc} {s : St}
theorem logS_1 (h : chkC c ≠ 0) : logS b c m = ((St0, 0, 0), 1) := if_pos h
theorem logS_2 (h : chkC c = 0) (hg : getR b c.blk = (x, n, e)) (he : e ≠ 0) : logS b c m = ((St0, 0, 0), e) := by
  unfold logS; rw [if_neg (by simpa using h), hg, if_pos he]
theorem logS_3 (h : chkC c = 0) (hg : getR b c.blk = (x, n, 0)) (hp : chkP x c m = (s, false)) : logS b c m = ((St0, 0, 0), 13) := by
  unfold logS; rw [if_neg (by simpa using h), hg, if_neg (by simp)]
  dsimp only
  rw [hp, if_pos rfl]
theorem logS_4 (h : chkC c = 0) (hg : getR b c.blk = (x, n, 0)) (hp : chkP x c m = (s, true)) : logS b c m = (folN b c.blk (b.length + 1) s 0 n, 0) := by
  unfold logS; rw [if_neg (by simpa using h), hg, if_neg (by simp)]
  dsimp only
  rw [hp, if_neg (by simp)]
end
theorem rb_sub {l : List Int} {p : Nat} {e m : Int} : (∀ x ∈ (rb l p e m).2.2, x ∈ l) ∧ (rb l p e m).2.2.length ≤ l.length := by
  unfold rb
  split
  · exact ⟨fun x hx => by simp at hx, by simp⟩
  · split
    · exact ⟨fun x hx => by simp at hx, by simp⟩
    · exact ⟨fun x hx => List.mem_of_mem_drop (List.mem_of_mem_take hx), by simp; omega⟩
/-- A record got: its blocks lie in the bytes, and so does its text. -/
theorem getR_in {l : List Int} {k : Int} (hB : Bytes l) : ((getR l k).2.2 = 0 → (1 ≤ k ∧ k ≤ 4096) ∧ 1 ≤ (getR l k).2.1 ∧ (getR l k).2.1 * k ≤ l.length) ∧ Bytes (getR l k).1.body ∧ (getR l k).1.body.length ≤ l.length := by
  have h0 : Bytes rc0.body ∧ rc0.body.length ≤ l.length := ⟨Bytes.nil, Nat.zero_le _⟩
  by_cases h : 1 ≤ k ∧ k ≤ 4096
  · by_cases h2 : l.length < 16
    · rw [getR_2 h h2]; exact ⟨fun h => by simp at h, h0⟩
    · by_cases h3 : (gQ1 l).2.1 ≠ 0
      · rw [getR_3 h h2 h3]; exact ⟨fun h => by simp at h, h0⟩
      · by_cases h4 : gM l k * k > l.length
        · rw [getR_4 h h2 h3 h4]; exact ⟨fun h => by simp at h, h0⟩
        · by_cases h5 : (gQ1 l).2.2 ≠ crcV (gP l)
          · rw [getR_5 h h2 h3 h4 h5]; exact ⟨fun h => by simp at h, h0⟩
          · by_cases h6 : ¬ (parOk (gP l) ∧ zeroB (gT l k) = true)
            · rw [getR_6 h h2 h3 h4 h5 h6]; exact ⟨fun h => by simp at h, h0⟩
            · rw [getR_7 h h2 h3 h4 h5 (Decidable.not_not.1 h6)]
              have hm := gM_bd (l := l) h
              have hn := gN_bd (l := l)
              have hs := rb_sub (l := gP l) (p := (rdF (gP l) rLo rHi 9).1) (e := (rdF (gP l) rLo rHi 9).2) (m := 1048576)
              have hPB : Bytes (gP l) := (hB.take _).drop _
              have hPl : (gP l).length ≤ l.length := by unfold gP; rw [List.length_drop, List.length_take]; omega
              refine ⟨fun _ => ⟨h, ?_, by dsimp only; omega⟩, fun x hx => hPB x (hs.1 x hx), Nat.le_trans hs.2 hPl⟩
              dsimp only
              rcases Int.lt_or_le (gM l k) 1 with h7 | h7
              · have h8 : gM l k = 0 := by omega
                rw [h8] at hm
                omega
              · exact h7
  · rw [getR_1 h]; exact ⟨fun h => by simp at h, h0⟩
theorem apply_right {s t : St} {x : Rc} (h : RS s) (ha : applyS s x = (t, 0)) : RS t ∧ t.c = s.c := by
  by_cases hgo : Goes s x
  · cases hst : stepS s x with
    | none => rw [applyS_bad h hgo hst] at ha; cases ha
    | some u =>
      rw [applyS_ok h hgo hst] at ha
      cases ha
      exact ⟨RS_step h hgo hst, stepS_c hst⟩
  · rw [applyS_form h hgo] at ha; cases ha
/-- A state that is got is right. -/
theorem getS_right (b : List Int) (h0 : (getS b).2 = 0) : RS (getS b).1 := by
  by_cases h : b.length < 88
  · rw [getS_1 h] at h0; exact absurd h0 (by decide)
  · obtain ⟨⟨c, ce⟩, hc⟩ : ∃ q, getC (b.take 88) = q := ⟨_, rfl⟩
    by_cases h2 : ce ≠ 0 ∨ chkC c ≠ 0
    · rw [getS_2 h hc h2] at h0; exact absurd h0 (by decide)
    · obtain ⟨rfl, hck⟩ : ce = 0 ∧ chkC c = 0 := by omega
      obtain ⟨⟨s, p, e⟩, hb⟩ : ∃ q, bodyS (b.drop 88) c = q := ⟨_, rfl⟩
      by_cases he : e ≠ 0
      · rw [getS_3 h hc hck hb he] at h0; exact absurd h0 he
      · obtain rfl : e = 0 := by omega
        by_cases h4 : p < (b.drop 88).length ∨ ¬ RS s
        · rw [getS_4 h hc hck hb h4] at h0; exact absurd h0 (by decide)
        · rw [getS_5 h hc hck hb h4]
          exact Decidable.byContradiction fun hr => h4 (.inr hr)
/-- What the records behind leave. -/
theorem folN_keep {b : List Int} {k : Int} (hB : Bytes b) : ∀ (f : Nat) (s : St) (cnt n : Int), RS s → 0 ≤ n → n * k ≤ b.length → RS (folN b k f s cnt n).1 ∧ (folN b k f s cnt n).1.c = s.c ∧ (folN b k f s cnt n).2.2 * k ≤ b.length ∧ 0 ≤ (folN b k f s cnt n).2.2
  | 0, s, cnt, n, h, h0, h1 => ⟨h, rfl, h1, h0⟩
  | f + 1, s, cnt, n, h, h0, h1 => by
    obtain ⟨⟨x, m, e⟩, hg⟩ : ∃ q, getR (b.drop (n * k).toNat) k = q := ⟨_, rfl⟩
    by_cases he : e ≠ 0
    · rw [folN_1 hg he]; exact ⟨h, rfl, h1, h0⟩
    · obtain rfl : e = 0 := by omega
      obtain ⟨⟨t, e'⟩, ha⟩ : ∃ q, applyS s x = q := ⟨_, rfl⟩
      by_cases he' : e' ≠ 0
      · rw [folN_2 hg ha he']; exact ⟨h, rfl, h1, h0⟩
      · obtain rfl : e' = 0 := by omega
        rw [folN_3 hg ha]
        have hi := (getR_in (k := k) (hB.drop (n * k).toNat)).1
        rw [hg] at hi
        obtain ⟨i1, i2, i3⟩ := hi rfl
        have ht := apply_right h ha
        have hnk : 0 ≤ n * k := Int.mul_nonneg h0 (by omega)
        have h2 : (n + m) * k ≤ b.length := by
          dsimp only at i3
          rw [Int.add_mul]
          rw [List.length_drop] at i3
          omega
        have := folN_keep hB f t (cnt + 1) (n + m) ht.1 (by dsimp only at i2; omega) h2
        exact ⟨this.1, this.2.1.trans ht.2, this.2.2⟩
end Go.Proofs.Ytjklgbafnfoolaa.AmF
namespace Go.Proofs.Ytjklgbafnfoolaa.AmF
open Go Go.AM
set_option maxRecDepth 100000
set_option linter.unusedSimpArgs false
set_option linter.unusedVariables false
theorem drop_le {l x r : List Int} {p : Nat} (h : l.drop p = x ++ r) (hx : 0 < x.length) : p ≤ l.length := by
  rcases Nat.lt_or_ge l.length p with h1 | h1
  · rw [List.drop_eq_nil_of_le (by omega)] at h
    have := congrArg List.length h
    simp at this
    omega
  · exact h1
theorem drop_more {l x r : List Int} {p n : Nat} (h : l.drop p = x ++ r) (hn : n = x.length) : l.drop (p + n) = r := by
  rw [← List.drop_drop, h, hn, List.drop_left]
theorem ri_drop {l r : List Int} {p : Nat} {v lo hi : Int} (h : l.drop p = enc v 8 ++ r) (hv : lo ≤ v ∧ v ≤ hi) (hI : I64 v) : ri l p 0 lo hi = (p + 8, 0, v) ∧ l.drop (p + 8) = r := by
  have hp := drop_le h (by rw [enc_len]; omega)
  refine ⟨?_, drop_more h (enc_len v 8).symm⟩
  have h1 := ri_enc (l := l) (a := l.take p) (b := r) (lo := lo) (hi := hi) (p := p) (by simp; omega) (by rw [← h, List.take_append_drop]) hI
  rw [h1, if_neg (by omega), if_neg (by omega)]
theorem rf_drop {l r : List Int} {p : Nat} {f : Bool} (h : l.drop p = flagB f ++ r) : rf l p 0 = (p + 1, 0, f) ∧ l.drop (p + 1) = r := by
  have hp := drop_le h (by simp [flagB])
  refine ⟨?_, drop_more h (by simp [flagB])⟩
  have h1 := rf_enc (l := l) (a := l.take p) (b := r) (c := if f = true then 1 else 0) (p := p) (by simp; omega) (by
    have e : (if f = true then (1 : Int) else 0) :: r = flagB f ++ r := rfl
    rw [e, ← h, List.take_append_drop])
  rw [h1]
  cases f <;> rfl
theorem rb_drop {l r x : List Int} {p : Nat} {m : Int} (h : l.drop p = enc x.length 8 ++ (x ++ r)) (hx : (x.length : Int) ≤ m) (hx' : x.length ≤ 140737488355328) : rb l p 0 m = (p + 8 + x.length, 0, x) ∧ l.drop (p + 8 + x.length) = r := by
  have hp := drop_le h (by rw [enc_len]; omega)
  refine ⟨rb_enc (l := l) (a := l.take p) (b := r) (p := p) (by simp; omega) (by rw [← h, List.take_append_drop]) hx hx', ?_⟩
  exact drop_more (drop_more h (enc_len _ 8).symm) rfl
theorem I64_of {v : Int} (h : -4611686018427387904 ≤ v ∧ v ≤ 4611686018427387904) : I64 v := ⟨by omega, by omega⟩
theorem pgK_drop {l r : List Int} {p : Nat} {ps : List Pr} (h : l.drop p = encPs ps ++ r) (hps : ∀ q ∈ ps, (0 ≤ q.w ∧ q.w ≤ 1099511627776) ∧ q.b.length ≤ 1048576) : ∀ i, i ≤ ps.length → ∃ p', pgK l p 0 i = (ps.take i, p', 0) ∧ l.drop p' = encPs (ps.drop i) ++ r
  | 0, _ => ⟨p, rfl, h⟩
  | i + 1, hi => by
    obtain ⟨p', h1, h2⟩ := pgK_drop h hps i (by omega)
    obtain ⟨q, hq⟩ : ∃ q, ps[i]? = some q := ⟨_, List.getElem?_eq_getElem (by omega)⟩
    have hqq : ps[i] = q := (List.getElem?_eq_some_iff.1 hq).2
    have hm := hps q (List.mem_of_getElem? hq)
    have e : ps.drop i = q :: ps.drop (i + 1) := by rw [List.drop_eq_getElem_cons (by omega), hqq]
    rw [e, encPs, encP, List.append_assoc, List.append_assoc] at h2
    obtain ⟨a1, a2⟩ := ri_drop (lo := 0) (hi := 1099511627776) h2 hm.1 (I64_of (by omega))
    rw [List.append_assoc] at a2
    obtain ⟨b1, b2⟩ := rb_drop (m := 1048576) a2 (by omega) (by omega)
    refine ⟨p' + 8 + 8 + q.b.length, ?_, b2⟩
    rw [pgK_succ h1 a1 b1, take_succ_get hq]
/-- A zone that may be read. -/
def ZG (z : Zn) : Prop := (0 ≤ z.gen ∧ z.gen ≤ 1099511627776) ∧ (-1 ≤ z.slot ∧ z.slot ≤ 64) ∧ (0 ≤ z.w ∧ z.w ≤ 1099511627776) ∧ z.pars.length ≤ 2 ∧ ∀ q ∈ z.pars, (0 ≤ q.w ∧ q.w ≤ 1099511627776) ∧ q.b.length ≤ 1048576
theorem zget_drop {l r : List Int} {p : Nat} {z : Zn} (h : l.drop p = encZ z ++ r) (hz : ZG z) : ∃ p', zget l p 0 = (z, p', 0) ∧ l.drop p' = r := by
  obtain ⟨z1, z2, z3, z4, z5⟩ := hz
  rw [encZ, headZ] at h
  simp only [List.append_assoc] at h
  obtain ⟨a1, a2⟩ := ri_drop (lo := 0) (hi := 1099511627776) h z1 (I64_of (by omega))
  obtain ⟨b1, b2⟩ := ri_drop (lo := -1) (hi := 64) a2 z2 (I64_of (by omega))
  obtain ⟨c1, c2⟩ := rf_drop b2
  obtain ⟨d1, d2⟩ := ri_drop (lo := 0) (hi := 1099511627776) c2 z3 (I64_of (by omega))
  obtain ⟨e1, e2⟩ := rf_drop d2
  obtain ⟨f1, f2⟩ := ri_drop (lo := 0) (hi := 2) e2 (by omega) (I64_of (by omega))
  obtain ⟨p', g1, g2⟩ := pgK_drop f2 z5 z.pars.length (Nat.le_refl _)
  rw [List.drop_length, List.take_length] at *
  refine ⟨p', ?_, g2⟩
  unfold zget
  simp only [a1, b1, c1, d1, e1, f1, Int.toNat_natCast, g1]
theorem stK_drop {l r : List Int} {p : Nat} {st : List Int} (h : l.drop p = encs st ++ r) (hst : ∀ n ∈ st, 0 ≤ n ∧ n ≤ 2) : ∀ i, i ≤ st.length → ∃ p', stK l p 0 i = (st.take i, p', 0) ∧ l.drop p' = encs (st.drop i) ++ r
  | 0, _ => ⟨p, rfl, h⟩
  | i + 1, hi => by
    obtain ⟨p', h1, h2⟩ := stK_drop h hst i (by omega)
    obtain ⟨q, hq⟩ : ∃ q, st[i]? = some q := ⟨_, List.getElem?_eq_getElem (by omega)⟩
    have hqq : st[i] = q := (List.getElem?_eq_some_iff.1 hq).2
    have hm := hst q (List.mem_of_getElem? hq)
    have e : st.drop i = q :: st.drop (i + 1) := by rw [List.drop_eq_getElem_cons (by omega), hqq]
    rw [e, encs, List.append_assoc] at h2
    obtain ⟨a1, a2⟩ := ri_drop (lo := 0) (hi := 2) h2 hm (I64_of (by omega))
    exact ⟨p' + 8, by rw [stK_succ h1 a1, take_succ_get hq], a2⟩
theorem zsK_drop {l r : List Int} {p : Nat} {zs : List Zn} (h : l.drop p = encZs zs ++ r) (hzs : ∀ z ∈ zs, ZG z) : ∀ i, i ≤ zs.length → ∃ p', zsK l p 0 i = (zs.take i, p', 0) ∧ l.drop p' = encZs (zs.drop i) ++ r
  | 0, _ => ⟨p, rfl, h⟩
  | i + 1, hi => by
    obtain ⟨p', h1, h2⟩ := zsK_drop h hzs i (by omega)
    obtain ⟨q, hq⟩ : ∃ q, zs[i]? = some q := ⟨_, List.getElem?_eq_getElem (by omega)⟩
    have hqq : zs[i] = q := (List.getElem?_eq_some_iff.1 hq).2
    have hm := hzs q (List.mem_of_getElem? hq)
    have e : zs.drop i = q :: zs.drop (i + 1) := by rw [List.drop_eq_getElem_cons (by omega), hqq]
    rw [e, encZs, List.append_assoc] at h2
    obtain ⟨p2, a1, a2⟩ := zget_drop h2 hm
    exact ⟨p2, by rw [zsK_succ h1 a1, take_succ_get hq], a2⟩
theorem size_small {c : Cf} (h : okC c) : 0 ≤ sizeC c ∧ sizeC c ≤ 3932160 := by
  have hs := okC_sane h
  have h1 : 0 ≤ stripesC c ∧ stripesC c ≤ 4096 := by
    unfold stripesC
    rw [if_pos hs]
    have hu := h.2.2.1
    have hc := h.2.2.2.2.1
    exact ⟨Int.ediv_nonneg (by omega) (by omega), Int.le_trans (Int.ediv_le_self _ (by omega)) (by omega)⟩
  have h2 : 0 ≤ rowC c ∧ rowC c ≤ 15 * 64 := by
    unfold rowC
    rw [if_pos hs]
    have hu := h.2.2.1
    have hm := h.2.1
    exact ⟨Int.mul_nonneg (by omega) (by omega), Int.mul_le_mul (by omega) (by omega) (by omega) (by omega)⟩
  unfold sizeC
  refine ⟨Int.mul_nonneg h1.1 h2.1, ?_⟩
  have := Int.mul_le_mul h1.2 h2.2 h2.1 (by omega)
  omega
theorem RZ_ZG {c : Cf} {rb : Bool} {z : Zn} (hc : okC c) (h : RZ c rb z) : ZG z := by
  obtain ⟨h1, h2, h3, h4, h5, h6, h7, h8⟩ := h
  have hs := size_small hc
  have hsl : slotsC c = c.zon + c.spa := by unfold slotsC; rw [if_pos (okC_sane hc)]
  have hsl2 : slotsC c ≤ 64 := by unfold okC at hc; omega
  refine ⟨h1, ⟨h2.1, by omega⟩, ⟨h3.1, by omega⟩, h6, fun q hq => ?_⟩
  obtain ⟨⟨g1, g2⟩, g3⟩ := h8 q hq
  have hu := hc.2.2.1
  have hb := hc.2.2.2.1
  have h10 : c.unit * c.blk ≤ 64 * 4096 := Int.mul_le_mul hu.2 hb.2 (by omega) (by omega)
  exact ⟨⟨by omega, by omega⟩, by omega⟩
theorem bodyS_drop {l : List Int} {s : St} (hrs : RS s) (h : l = (enc s.ep 8 ++ enc s.sq 8) ++ (encs s.st ++ encZs s.zs)) : ∃ p, bodyS l s.c = (s, p, 0) ∧ l.drop p = [] := by
  obtain ⟨r1, r2, r3, r4, r5, r6, r7, r8, r9⟩ := hrs
  have hk := chkC_ok r1
  have h0 : l.drop 0 = enc s.ep 8 ++ (enc s.sq 8 ++ (encs s.st ++ (encZs s.zs ++ []))) := by rw [List.drop_zero, h]; simp
  obtain ⟨a1, a2⟩ := ri_drop (lo := 0) (hi := 1099511627776) h0 (by omega) (I64_of (by omega))
  obtain ⟨b1, b2⟩ := ri_drop (lo := 0) (hi := 1099511627776) a2 (by omega) (I64_of (by omega))
  obtain ⟨p3, c1, c2⟩ := stK_drop b2 r6 s.st.length (Nat.le_refl _)
  rw [List.drop_length, List.take_length] at *
  obtain ⟨p4, d1, d2⟩ := zsK_drop c2 (fun z hz => RZ_ZG hk (r8 z hz)) s.zs.length (Nat.le_refl _)
  rw [List.drop_length, List.take_length] at *
  refine ⟨p4, ?_, d2⟩
  have e5 : s.c.mem.toNat = s.st.length := by omega
  have e6 : s.c.zon.toNat = s.zs.length := by omega
  unfold bodyS
  simp only [a1, b1, e5, c1, e6, d1]
/-- What is put is got. -/
theorem getS_put {s : St} (hrs : RS s) : getS (encSt s) = (s, 0) := by
  have hk := chkC_ok hrs.1
  have hl := headS_len s
  have hlen : ¬ (encSt s).length < 88 := by rw [encSt, List.length_append]; omega
  have h88 : (encs s.c.l).length = 88 := by rw [encs_len]; rfl
  have hsplit : encSt s = encs s.c.l ++ ((enc s.ep 8 ++ enc s.sq 8) ++ (encs s.st ++ encZs s.zs)) := by rw [encSt, headS, List.append_assoc]
  have ht : (encSt s).take 88 = encs s.c.l := by rw [hsplit]; exact List.take_left' h88
  have hd : (encSt s).drop 88 = (enc s.ep 8 ++ enc s.sq 8) ++ (encs s.st ++ encZs s.zs) := by rw [hsplit]; exact List.drop_left' h88
  have hr : ∀ x ∈ s.c.l, -4611686018427387904 ≤ x ∧ x ≤ 4611686018427387904 := by
    intro x hx
    unfold okC at hk
    simp only [Cf.l, List.mem_cons, List.not_mem_nil, or_false] at hx
    rcases hx with rfl | rfl | rfl | rfl | rfl | rfl | rfl | rfl | rfl | rfl | rfl <;> omega
  have hc : getC ((encSt s).take 88) = (s.c, 0) := by
    rw [ht]
    refine (getC_put (fun x hx => I64_of (hr x hx))).1 ?_
    rw [List.all_eq_true]
    intro x hx
    exact decide_eq_true (hr x hx)
  obtain ⟨p, hb, hp⟩ := bodyS_drop hrs hd
  refine getS_5 hlen hc hrs.1 hb ?_
  intro h
  rcases h with h | h
  · have := List.drop_eq_nil_iff.1 hp
    omega
  · exact h hrs
theorem flagB_bytes (f : Bool) : Bytes (flagB f) := by
  intro x hx
  rw [List.mem_singleton.1 hx]
  cases f <;> decide
theorem encPs_bytes : ∀ l : List Pr, (∀ p ∈ l, Bytes p.b) → Bytes (encPs l)
  | [], _ => Bytes.nil
  | p :: l, h => ((enc_bytes _ _).append ((enc_bytes _ _).append (h p (List.mem_cons_self ..)))).append (encPs_bytes l fun q hq => h q (List.mem_cons_of_mem _ hq))
theorem encZs_bytes : ∀ zs : List Zn, (∀ z ∈ zs, ∀ p ∈ z.pars, Bytes p.b) → Bytes (encZs zs)
  | [], _ => Bytes.nil
  | z :: zs, h => (((enc_bytes _ _).append ((enc_bytes _ _).append ((flagB_bytes _).append ((enc_bytes _ _).append ((flagB_bytes _).append (enc_bytes _ _)))))).append (encPs_bytes z.pars (h z (List.mem_cons_self ..)))).append (encZs_bytes zs fun y hy => h y (List.mem_cons_of_mem _ hy))
theorem encSt_bytes {s : St} (h : ∀ z ∈ s.zs, ∀ p ∈ z.pars, Bytes p.b) : Bytes (encSt s) :=
  ((encs_bytes _).append ((enc_bytes _ _).append (enc_bytes _ _))).append ((encs_bytes _).append (encZs_bytes _ h))
end Go.Proofs.Ytjklgbafnfoolaa.AmF
namespace Go.Proofs.Ytjklgbafnfoolaa.AmF
open Go Go.AM
set_option maxRecDepth 100000
set_option linter.unusedSimpArgs false
set_option linter.unusedVariables false
attribute [local simp] tkeep tget tput ev cav argsTM pickA normT putA splice AV.cells ints_length rowsA_length enc_len
theorem rdF_encs {L rest : List Int} {lo hi : Nat → Int} (hI : ∀ x ∈ L, I64 x) (hb : ∀ i v, L[i]? = some v → lo i ≤ v ∧ v ≤ hi i) : ∀ n, n ≤ L.length →
    rdF (encs L ++ rest) lo hi n = (8 * n, 0) ∧ ∀ j, j < n → rdFV (encs L ++ rest) lo hi j = L.getD j 0
  | 0, _ => ⟨rfl, fun j hj => absurd hj (Nat.not_lt_zero _)⟩
  | n + 1, h => by
    obtain ⟨h1, h2⟩ := rdF_encs (rest := rest) hI hb n (by omega)
    obtain ⟨x, hx⟩ : ∃ x, L[n]? = some x := ⟨_, List.getElem?_eq_getElem (by omega)⟩
    have hr := ri_encs (rest := rest) (lo := lo n) (hi := hi n) hx (hI x (List.mem_of_getElem? hx))
    have hbx := hb n x hx
    have hno : ¬ (x < lo n ∨ hi n < x) := by omega
    rw [if_neg hno, if_neg hno] at hr
    have hgd : L.getD n 0 = x := by rw [List.getD_eq_getElem?_getD, hx]; rfl
    refine ⟨?_, fun j hj => ?_⟩
    · show ((ri _ (rdF (encs L ++ rest) lo hi n).1 (rdF (encs L ++ rest) lo hi n).2 (lo n) (hi n)).1, (ri _ (rdF (encs L ++ rest) lo hi n).1 (rdF (encs L ++ rest) lo hi n).2 (lo n) (hi n)).2.1) = _
      rw [h1, hr]
      rfl
    · rcases Nat.lt_or_ge j n with hjn | hjn
      · exact h2 j hjn
      · obtain rfl : j = n := by omega
        show (ri _ (rdF (encs L ++ rest) lo hi j).1 (rdF (encs L ++ rest) lo hi j).2 (lo j) (hi j)).2.2 = _
        rw [h1, hr, hgd]
theorem pad_len {n k : Nat} (hk : 1 ≤ k) : n + (k - n % k) % k = (n + k - 1) / k * k := by
  have h1 := Nat.div_add_mod n k
  have h2 := Nat.mod_lt n (show k > 0 by omega)
  generalize n / k = q at h1
  generalize hr : n % k = r at h1 h2
  rcases Nat.eq_zero_or_pos r with h0 | h0
  · rw [h0, Nat.sub_zero, Nat.mod_self]
    have : n + k - 1 = (k - 1) + k * q := by omega
    rw [this, Nat.add_mul_div_left _ _ (by omega), Nat.div_eq_of_lt (by omega), Nat.zero_add, Nat.mul_comm]
    omega
  · rw [Nat.mod_eq_of_lt (a := k - r) (by omega)]
    have : n + k - 1 = (r - 1) + k * (q + 1) := by rw [Nat.mul_add]; omega
    rw [this, Nat.add_mul_div_left _ _ (by omega), Nat.div_eq_of_lt (by omega), Nat.zero_add, Nat.mul_comm, Nat.mul_add]
    omega
theorem zeroB_rep (n : Nat) : zeroB (List.replicate n 0) = true := by simp [zeroB]
theorem PR_I64 {x : Rc} (h : PR x) : ∀ v ∈ x.l, I64 v := by
  intro v hv
  obtain ⟨i, hi⟩ := List.getElem?_of_mem hv
  have h1 := PR_nine hi h
  have h5 : -1 ≤ v := by
    rcases h1.2 with h2 | h2
    · omega
    · subst h2
      simp [Rc.l] at hi
      subst hi
      unfold PR at h
      omega
  exact ⟨by omega, by omega⟩
theorem parse_pay {x : Rc} (h : PR x) : parOk (payR x) ∧ xr (payR x) = x := by
  have hb : ∀ i v, x.l[i]? = some v → rLo i ≤ v ∧ v ≤ rHi i := by
    intro i v hv
    have hi : i < 9 := (List.getElem?_eq_some_iff.1 hv).1
    unfold PR at h
    match i, hi with
    | 0, _ | 1, _ | 2, _ | 3, _ | 4, _ | 5, _ | 6, _ | 7, _ | 8, _ => simp [Rc.l] at hv; subst hv; simp [rLo, rHi]; omega
  have hbl : x.body.length ≤ 1048576 := by unfold PR at h; omega
  obtain ⟨k, hk⟩ : ∃ k, x.l.length = k := ⟨_, rfl⟩
  have hk9 : 9 = k := hk
  have hd := rdF_encs (rest := enc x.body.length 8 ++ x.body) (lo := rLo) (hi := rHi) (PR_I64 h) hb k (Nat.le_of_eq hk.symm)
  have hlen : (encs x.l).length = 8 * k := by rw [encs_len, hk]
  have he : payR x = encs x.l ++ (enc x.body.length 8 ++ x.body) := by simp [payR]
  have hl := payR_len x
  rw [← he] at hd
  have hrb := rb_enc (l := payR x) (a := encs x.l) (b := []) (x := x.body) (m := 1048576) (p := 8 * k) hlen.symm (by rw [he]; simp) (by omega) (by omega)
  have hgd : ∀ j, j < k → rdFV (payR x) rLo rHi j = x.l.getD j 0 := hd.2
  have hd1 := hd.1
  subst hk9
  have hB : rBody (payR x) = (72 + 8 + x.body.length, 0, x.body) := by
    unfold rBody
    rw [hd1]
    exact hrb
  refine ⟨⟨by rw [hB], by rw [hB, hl]⟩, ?_⟩
  have e : ∀ (f : Nat → Int) (b : List Int), (∀ j, j < 9 → f j = x.l.getD j 0) → b = x.body → (⟨f 0, f 1, f 2, f 3, f 4, f 5, f 6, f 7, f 8, b⟩ : Rc) = x := by
    intro f b hf hb
    cases x
    simp only [Rc.mk.injEq]
    exact ⟨hf 0 (by decide), hf 1 (by decide), hf 2 (by decide), hf 3 (by decide), hf 4 (by decide), hf 5 (by decide), hf 6 (by decide), hf 7 (by decide), hf 8 (by decide), hb⟩
  exact e (rdFV (payR x) rLo rHi) _ hgd (by rw [hB])
theorem getR_put {x : Rc} {k : Int} {more : List Int} (h : PR x) (hk : 1 ≤ k ∧ k ≤ 4096) : getR (putR x k ++ more) k = (x, ((putR x k).length : Int) / k, 0) ∧ ((putR x k).length : Int) / k * k = (putR x k).length := by
  rw [putR_good ⟨h, hk⟩]
  obtain ⟨hpo, hxr⟩ := parse_pay h
  have hpl := payR_len x
  have hbl : x.body.length ≤ 1048576 := by unfold PR at h; omega
  obtain ⟨n, rfl⟩ := Int.eq_ofNat_of_zero_le (show 0 ≤ k by omega)
  generalize payR x = p at hpo hxr hpl
  have hcb := crcV_bd p
  have hhl := headR_len p
  obtain ⟨z, hz⟩ : ∃ z, (n - (headR p ++ p).length % n) % n = z := ⟨_, rfl⟩
  have hpad : padL (headR p ++ p) (n : Int).toNat = (headR p ++ p) ++ List.replicate z 0 := by unfold padL; rw [Int.toNat_natCast, hz]
  have hlen : (16 + p.length) + z = (16 + p.length + n - 1) / n * n := by
    rw [← hz, List.length_append, hhl]
    exact pad_len (by omega)
  rw [hpad]
  obtain ⟨l, hl⟩ : ∃ l, (headR p ++ p) ++ List.replicate z 0 ++ more = l := ⟨_, rfl⟩
  have hbl2 : ((headR p ++ p) ++ List.replicate z 0).length = 16 + p.length + z := by simp [hhl]; omega
  have ht16 : l.take 16 = headR p := by
    rw [← hl, List.append_assoc, List.append_assoc]
    exact List.take_left' hhl
  have q0 : gQ0 l = (8, 0, (p.length : Int)) := by
    have := ri_enc (l := headR p) (a := []) (b := enc (crcV p) 8) (v := p.length) (lo := 0) (hi := 1048656) (p := 0) rfl rfl ⟨by omega, by omega⟩
    unfold gQ0
    rw [ht16, this]
    have hc : ¬ ((p.length : Int) < 0 ∨ 1048656 < (p.length : Int)) := by omega
    rw [if_neg hc, if_neg hc]
  have q1 : gQ1 l = (16, 0, crcV p) := by
    have := ri_enc (l := headR p) (a := enc p.length 8) (b := []) (v := crcV p) (lo := -9223372036854775808) (hi := 9223372036854775807) (p := 8) (by simp) (by simp [headR]) ⟨by omega, by omega⟩
    unfold gQ1
    rw [ht16, q0, this]
    have hc : ¬ (crcV p < -9223372036854775808 ∨ 9223372036854775807 < crcV p) := by omega
    rw [if_neg hc, if_neg hc]
  have hgN : gN l = p.length := by unfold gN; rw [q0]
  have hgM : gM l n = ((16 + p.length + n - 1) / n : Nat) := by
    unfold gM
    rw [hgN]
    have : (16 : Int) + p.length + n - 1 = ((16 + p.length + n - 1 : Nat) : Int) := by omega
    rw [this]
    simp
  have hmk : gM l n * n = (16 + p.length + z : Nat) := by
    rw [hgM, ← Int.natCast_mul, ← hlen]
  have hgP : gP l = p := by
    unfold gP
    rw [hgN]
    have e1 : ((16 : Int) + p.length).toNat = 16 + p.length := by omega
    have e2 : l.take (16 + p.length) = headR p ++ p := by
      rw [← hl, List.append_assoc]
      exact List.take_left' (by simp [hhl])
    rw [e1, e2]
    exact List.drop_left' hhl
  have hgT : gT l n = List.replicate z 0 := by
    unfold gT
    rw [hgN, hmk]
    have e1 : ((16 : Int) + p.length).toNat = 16 + p.length := by omega
    have e2 : l.take (16 + p.length + z) = (headR p ++ p) ++ List.replicate z 0 := by
      rw [← hl]
      exact List.take_left' (by simp [hhl]; omega)
    rw [e1, Int.toNat_natCast, e2]
    exact List.drop_left' (by simp [hhl])
  have hll : 16 + p.length + z ≤ l.length := by
    rw [← hl, List.length_append, hbl2]
    omega
  have hq : (((headR p ++ p) ++ List.replicate z 0).length : Int) / n = gM l n := by
    rw [hbl2, ← hmk]
    exact Int.mul_ediv_cancel _ (by omega)
  rw [hq, hbl2, hmk, hl]
  refine ⟨?_, rfl⟩
  rw [getR_7 hk (by omega) (by rw [q1]; simp) (by rw [hmk]; omega) (by rw [q1, hgP]; simp) ⟨by rw [hgP]; exact hpo, by rw [hgT]; exact zeroB_rep z⟩, hgP, hxr]
end Go.Proofs.Ytjklgbafnfoolaa.AmF
