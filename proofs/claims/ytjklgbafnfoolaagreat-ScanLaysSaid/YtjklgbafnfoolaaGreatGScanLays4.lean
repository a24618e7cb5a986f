/- Walks over the abstract machine: settings, which may be and what follows. -/
import Derived.Test.YtjklgbafnfoolaaGreatGScanLays3
namespace Go.Proofs.YtjklgbafnfoolaaGreat.AmF
open Go Go.AM
set_option maxRecDepth 100000
set_option linter.unusedSimpArgs false
set_option linter.unusedVariables false
attribute [local simp] tkeep tget tput ev cav argsTM pickA normT putA splice AV.cells ints_length rowsA_length
/-- Settings. -/
structure Cf where
  id : Int
  mem : Int
  unit : Int
  blk : Int
  cap : Int
  zon : Int
  spa : Int
  met : Int
  opn : Int
  act : Int
  lim : Int
  deriving DecidableEq
def Cf.l (c : Cf) : List Int := [c.id, c.mem, c.unit, c.blk, c.cap, c.zon, c.spa, c.met, c.opn, c.act, c.lim]
def CC (c : Cf) : List AV := ints .i64 c.l
def CB (c : Cf) : Blk := ⟨11, true, [.agg (CC c)]⟩
/-- Pointers to all numbers but the first. -/
def NB : Blk := ⟨1, true, [.ref 0 0 1, .ref 0 0 2, .ref 0 0 3, .ref 0 0 4, .ref 0 0 5, .ref 0 0 6, .ref 0 0 7, .ref 0 0 8, .ref 0 0 9, .ref 0 0 10]⟩
def ok20 (x : Int) : Bool := decide (1 ≤ x ∧ x ≤ 1048576)
def saneC (c : Cf) : Bool := (c.l.drop 1).all ok20
theorem saneC_iff (c : Cf) : saneC c = true ↔ ((1 ≤ c.mem ∧ c.mem ≤ 1048576) ∧ (1 ≤ c.unit ∧ c.unit ≤ 1048576) ∧ (1 ≤ c.blk ∧ c.blk ≤ 1048576) ∧ (1 ≤ c.cap ∧ c.cap ≤ 1048576) ∧ (1 ≤ c.zon ∧ c.zon ≤ 1048576) ∧ (1 ≤ c.spa ∧ c.spa ≤ 1048576) ∧ (1 ≤ c.met ∧ c.met ≤ 1048576) ∧ (1 ≤ c.opn ∧ c.opn ≤ 1048576) ∧ (1 ≤ c.act ∧ c.act ≤ 1048576) ∧ (1 ≤ c.lim ∧ c.lim ≤ 1048576)) := by
  simp [saneC, Cf.l, ok20]
theorem CC_ren (ρ : Nat → Option Nat) (c : Cf) : renL ρ (CC c) = CC c := renL_ints _ _ _
theorem CB_ren (ρ : Nat → Option Nat) (c : Cf) : Blk.ren ρ (CB c) = CB c := by simp [CB, Blk.ren, renL, AV.ren, CC_ren]
def dataC (c : Cf) : Int := if saneC c = true then c.mem - 1 else 0
def rowC (c : Cf) : Int := if saneC c = true then (c.mem - 1) * c.unit else 0
def stripesC (c : Cf) : Int := if saneC c = true then c.cap / c.unit else 0
def sizeC (c : Cf) : Int := stripesC c * rowC c
def slotsC (c : Cf) : Int := if saneC c = true then c.zon + c.spa else 0
def allC (c : Cf) : Int := if saneC c = true then c.met + c.zon + c.spa else 0
def headC (c : Cf) : Int := 320 + 8 * c.mem + 48 * c.zon + (c.zon + 1) * c.unit * c.blk
def roomC (c : Cf) : Int := if saneC c = true then (headC c + c.blk - 1) / c.blk + 2 else 0
def okC (c : Cf) : Prop := (0 ≤ c.id ∧ c.id ≤ 1099511627776) ∧ (3 ≤ c.mem ∧ c.mem ≤ 16) ∧ (1 ≤ c.unit ∧ c.unit ≤ 64) ∧ (1 ≤ c.blk ∧ c.blk ≤ 4096) ∧ (1 ≤ c.cap ∧ c.cap ≤ 4096) ∧ c.cap % c.unit = 0 ∧
  (1 ≤ c.zon ∧ c.zon ≤ 64) ∧ (1 ≤ c.spa ∧ c.spa ≤ 64) ∧ (3 ≤ c.met ∧ c.met ≤ 64) ∧ c.met + c.zon + c.spa ≤ 64 ∧ (1 ≤ c.act ∧ c.act ≤ c.zon) ∧ (1 ≤ c.opn ∧ c.opn ≤ c.act) ∧ (c.act + c.spa + c.met ≤ c.lim ∧ c.lim ≤ 64)
instance (c : Cf) : Decidable (okC c) := by unfold okC; infer_instance
/-- The error that settings have. -/
def chkC (c : Cf) : Int := if okC c then (if roomC c > c.cap then 17 else 0) else 1
theorem chk_bad {c : Cf} (h : ¬ okC c) : chkC c = 1 := if_neg h
theorem chk_room {c : Cf} (h : okC c) (h' : roomC c > c.cap) : chkC c = 17 := by unfold chkC; rw [if_pos h, if_pos h']
theorem chk_ok {c : Cf} (h : okC c) (h' : ¬ roomC c > c.cap) : chkC c = 0 := by unfold chkC; rw [if_pos h, if_neg h']
theorem okC_sane {c : Cf} (h : okC c) : saneC c = true := by
  rw [saneC_iff]
  unfold okC at h
  omega
theorem chkC_ok {c : Cf} (h : chkC c = 0) : okC c := by
  unfold chkC at h
  split at h
  · assumption
  · cases h
theorem mul_bd {a b A B : Int} (ha : 0 ≤ a) (ha' : a ≤ A) (hb : 0 ≤ b) (hb' : b ≤ B) : 0 ≤ a * b ∧ a * b ≤ A * B :=
  ⟨Int.mul_nonneg ha hb, Int.mul_le_mul ha' hb' hb (by omega)⟩
theorem numbers_new (c : Cf) : CSpec Tryz.prog 81 [CB c] [.ref 0 0 0] [some (CB c), some NB] (.sl 1 0 10) := by
 refine CSpec.body Tryz.func81 rfl rfl rfl rfl rfl fun Q hQ => ?_
 refine T.seq fun K1 hK1 => ?_
 refine T.region ?_
 refine rs rfl rfl (ok_move (.inr rfl)) ?_
 refine ro_nil ?_
 refine keepK hK1 [0] (by dsimp) (by dsimp) ?_
 refine T.seq fun K2 hK2 => ?_
 refine T.drawH mixed [] ?_
 refine any_take 0 rfl (by first | rfl | decide +kernel) rfl (HeldL.refl _) (fun H' hH => OpOk.step (ok_move (.inl rfl))) ?_
 refine any_take 1 rfl (by first | rfl | decide +kernel) rfl (HeldL.refl _) (fun H' hH => OpOk.step (ok_nilCheck rfl rfl)) ?_
 refine any_take 2 rfl (by first | rfl | decide +kernel) rfl (HeldL.refl _) (fun H' hH => OpOk.step (ok_fieldAddr rfl ti_api_Conf rfl rfl ti_int (by decide) rfl)) ?_
 refine any_take 3 rfl (by first | rfl | decide +kernel) rfl (HeldL.refl _) (fun H' hH => OpOk.step (ok_move (.inl rfl))) ?_
 refine any_take 4 rfl (by first | rfl | decide +kernel) rfl (HeldL.refl _) (fun H' hH => OpOk.step (ok_nilCheck rfl rfl)) ?_
 refine any_take 5 rfl (by first | rfl | decide +kernel) rfl (HeldL.refl _) (fun H' hH => OpOk.step (ok_fieldAddr rfl ti_api_Conf rfl rfl ti_int (by decide) rfl)) ?_
 refine any_take 6 rfl (by first | rfl | decide +kernel) rfl (HeldL.refl _) (fun H' hH => OpOk.step (ok_move (.inl rfl))) ?_
 refine any_take 7 rfl (by first | rfl | decide +kernel) rfl (HeldL.refl _) (fun H' hH => OpOk.step (ok_nilCheck rfl rfl)) ?_
 refine any_take 8 rfl (by first | rfl | decide +kernel) rfl (HeldL.refl _) (fun H' hH => OpOk.step (ok_fieldAddr rfl ti_api_Conf rfl rfl ti_int (by decide) rfl)) ?_
 refine any_take 9 rfl (by first | rfl | decide +kernel) rfl (HeldL.refl _) (fun H' hH => OpOk.step (ok_move (.inl rfl))) ?_
 refine any_take 10 rfl (by first | rfl | decide +kernel) rfl (HeldL.refl _) (fun H' hH => OpOk.step (ok_nilCheck rfl rfl)) ?_
 refine any_take 11 rfl (by first | rfl | decide +kernel) rfl (HeldL.refl _) (fun H' hH => OpOk.step (ok_fieldAddr rfl ti_api_Conf rfl rfl ti_int (by decide) rfl)) ?_
 refine any_take 12 rfl (by first | rfl | decide +kernel) rfl (HeldL.refl _) (fun H' hH => OpOk.step (ok_move (.inl rfl))) ?_
 refine any_take 13 rfl (by first | rfl | decide +kernel) rfl (HeldL.refl _) (fun H' hH => OpOk.step (ok_nilCheck rfl rfl)) ?_
 refine any_take 14 rfl (by first | rfl | decide +kernel) rfl (HeldL.refl _) (fun H' hH => OpOk.step (ok_fieldAddr rfl ti_api_Conf rfl rfl ti_int (by decide) rfl)) ?_
 refine any_take 15 rfl (by first | rfl | decide +kernel) rfl (HeldL.refl _) (fun H' hH => OpOk.step (ok_move (.inl rfl))) ?_
 refine any_take 16 rfl (by first | rfl | decide +kernel) rfl (HeldL.refl _) (fun H' hH => OpOk.step (ok_nilCheck rfl rfl)) ?_
 refine any_take 17 rfl (by first | rfl | decide +kernel) rfl (HeldL.refl _) (fun H' hH => OpOk.step (ok_fieldAddr rfl ti_api_Conf rfl rfl ti_int (by decide) rfl)) ?_
 refine any_take 18 rfl (by first | rfl | decide +kernel) rfl (HeldL.refl _) (fun H' hH => OpOk.step (ok_move (.inl rfl))) ?_
 refine any_take 19 rfl (by first | rfl | decide +kernel) rfl (HeldL.refl _) (fun H' hH => OpOk.step (ok_nilCheck rfl rfl)) ?_
 refine any_take 20 rfl (by first | rfl | decide +kernel) rfl (HeldL.refl _) (fun H' hH => OpOk.step (ok_fieldAddr rfl ti_api_Conf rfl rfl ti_int (by decide) rfl)) ?_
 refine any_take 21 rfl (by first | rfl | decide +kernel) rfl (HeldL.refl _) (fun H' hH => OpOk.step (ok_move (.inl rfl))) ?_
 refine any_take 22 rfl (by first | rfl | decide +kernel) rfl (HeldL.refl _) (fun H' hH => OpOk.step (ok_nilCheck rfl rfl)) ?_
 refine any_take 23 rfl (by first | rfl | decide +kernel) rfl (HeldL.refl _) (fun H' hH => OpOk.step (ok_fieldAddr rfl ti_api_Conf rfl rfl ti_int (by decide) rfl)) ?_
 refine any_take 24 rfl (by first | rfl | decide +kernel) rfl (HeldL.refl _) (fun H' hH => OpOk.step (ok_move (.inl rfl))) ?_
 refine any_take 25 rfl (by first | rfl | decide +kernel) rfl (HeldL.refl _) (fun H' hH => OpOk.step (ok_nilCheck rfl rfl)) ?_
 refine any_take 26 rfl (by first | rfl | decide +kernel) rfl (HeldL.refl _) (fun H' hH => OpOk.step (ok_fieldAddr rfl ti_api_Conf rfl rfl ti_int (by decide) rfl)) ?_
 refine any_take 27 rfl (by first | rfl | decide +kernel) rfl (HeldL.refl _) (fun H' hH => OpOk.step (ok_move (.inl rfl))) ?_
 refine any_take 28 rfl (by first | rfl | decide +kernel) rfl (HeldL.refl _) (fun H' hH => OpOk.step (ok_nilCheck rfl rfl)) ?_
 refine any_take 29 rfl (by first | rfl | decide +kernel) rfl (HeldL.refl _) (fun H' hH => OpOk.step (ok_fieldAddr rfl ti_api_Conf rfl rfl ti_int (by decide) rfl)) ?_
 refine any_one 30 rfl (by first | rfl | decide +kernel) rfl rfl (OpOk.step (ok_buildSlice (n := 10) (ps := #[(0, .tmp 5), (1, .tmp 8), (2, .tmp 11), (3, .tmp 14), (4, .tmp 17), (5, .tmp 20), (6, .tmp 23), (7, .tmp 26), (8, .tmp 29), (9, .tmp 32)]) rfl ti_LPint rfl ti_Pint (by decide) rfl rfl (by decide) rfl rfl rfl)) (.inr (by first | (simp [HeldL]; done) | (simp only [dH]; (repeat' first | trivial | rfl | constructor)))) ?_
 refine any_take 31 rfl (by first | rfl | decide +kernel) rfl (by first | exact HeldL.refl _ | exact HeldL.append _ _ | simp [HeldL]) (fun H' hH => OpOk.step (ok_move (.inr rfl))) ?_
 refine any_done rfl ?_
 refine keepK hK2 [2] (by dsimp) (by dsimp) ?_
 refine T.ret (hQ _ _ _ rfl ?_).1 -- ret 1
 exact TEnt.fin [0, 1] (by decide) (by simp) (by simp [normH, hget, CB_ren]; rfl) ⟨rfl, trivial⟩
theorem NB_get {i : Nat} (h : i < 10) : NB.els[i]? = some (.ref 0 0 (i + 1)) := by
  match i, h with
  | 0, _ | 1, _ | 2, _ | 3, _ | 4, _ | 5, _ | 6, _ | 7, _ | 8, _ | 9, _ => rfl
theorem CC_get {c : Cf} {i : Nat} {x : Int} (h : c.l[i]? = some x) : (CC c)[i]? = some (.int x) := ints_get_of h
theorem sane_ok (c : Cf) : CSpec Tryz.prog 112 [CB c, NB] [.sl 1 0 10] [some (CB c), some NB] (.b (saneC c)) := by
 refine CSpec.body Tryz.func112 rfl rfl rfl rfl rfl fun Q hQ => ?_
 refine T.seq fun K1 hK1 => ?_
 refine T.region ?_
 refine rs rfl rfl (ok_moveb (c := false) (.inr rfl) rfl) ?_
 refine ro_nil ?_
 refine keepK hK1 [0] (by dsimp) (by dsimp) ?_
 refine T.seq fun K2 hK2 => ?_
 refine T.seq fun K3 hK3 => ?_
 refine T.region ?_
 refine rs rfl rfl (ok_move (.inl rfl)) ?_
 refine rs rfl rfl (ok_len' rfl rfl ti_LPint rfl (by first | exact ints_length _ _ | exact rowsA_length _ _ | exact Cms_len _ | exact mapLen _ | rfl)) ?_
 refine rs rfl rfl (ok_move (.inl rfl)) ?_
 refine ro_nil ?_
 refine keepK hK3 [5, 6, 7] (by dsimp) (by dsimp) ?_
 refine T.block ?_
 refine T.loopI (ι := Nat) (fun i => i ≤ 10 ∧ ((c.l.drop 1).take i).all ok20 = true) (fun i => 10 - i) (fun i => ([(5, .sl 1 0 10), (6, .int 10), (7, .int i)], [some (CB c), some NB])) 0 ⟨Nat.zero_le _, rfl⟩ (TEnt.toH rfl ⟨rfl, rfl, rfl, trivial⟩) (fun i hi => ?_) -- loop 1
 obtain ⟨hi, hall⟩ := hi
 refine T.seq fun K4 hK4 => ?_
 refine T.region ?_
 refine rs rfl rfl (ok_binOp rfl ti_int rfl) ?_
 refine ro_nil ?_
 refine keepK hK4 [5, 6, 7, 8] (by dsimp) (by dsimp) ?_
 refine T.seq fun K5 hK5 => ?_
 refine T.cond rfl (fun hc => ?_) (fun hc => ?_) -- cond 1
 ·(try simp only [dE] at hc)
  have hi10 : i < 10 := by omega
  obtain ⟨x, hx⟩ : ∃ x, c.l[i + 1]? = some x := ⟨_, List.getElem?_eq_getElem (by simp [Cf.l]; omega)⟩
  have hxd : (c.l.drop 1)[i]? = some x := by rw [List.getElem?_drop, Nat.add_comm]; exact hx
  have hbad : ok20 x = false → saneC c = false := by
    intro h
    have hm : x ∈ c.l.drop 1 := List.mem_of_getElem? hxd
    unfold saneC
    rw [Bool.eq_false_iff]
    intro h2
    rw [List.all_eq_true.1 h2 x hm] at h
    cases h
  have htk : (c.l.drop 1).take (i + 1) = (c.l.drop 1).take i ++ [x] := take_succ_get hxd
  refine T.skip ?_
  refine keepK hK5 [5, 6, 7] (by dsimp) (by dsimp) ?_
  refine T.seq fun K6 hK6 => ?_
  refine T.block ?_
  refine T.seq fun K7 hK7 => ?_
  refine T.region ?_
  refine rs rfl rfl (by exact ok_index_sl rfl ti_LPint rfl ti_Pint rfl rfl rfl rfl (by omega) (by omega)) ?_
  refine rs rfl rfl (by exact ok_load rfl ti_Pint (cl := [.ref 0 0 (i + 1)]) (f := 0) (by show locA [some (CB c), some NB] (.ref 1 (0 + ((i : Nat) : Int).toNat) 0) = _; simp [locA, hget, NB_get hi10, AV.cells]) rfl) ?_
  refine rs rfl rfl (ok_move (.inr rfl)) ?_
  refine ro_nil ?_
  refine keepK hK7 [4, 5, 6, 7] (by dsimp) (by dsimp) ?_
  refine T.seq fun K8 hK8 => ?_
  refine T.region ?_
  refine rs rfl rfl (ok_move (.inl rfl)) ?_
  refine rs rfl rfl (ok_nilCheck rfl rfl) ?_
  refine rs rfl rfl (by exact ok_load rfl ti_int (cl := CC c) (f := i + 1) rfl (CC_get hx)) ?_
  refine rs rfl rfl (ok_binOp rfl ti_int rfl) ?_
  refine ro_case rfl rfl (OpOk.step (ok_moveb (.inl rfl) rfl)) (fun hb => ?_) (fun hb => ?_)
  ·(try simp only [dE] at hb)
   refine ro_skip rfl rfl ?_
   refine ro_skip rfl rfl ?_
   refine ro_skip rfl rfl ?_
   refine ro_skip rfl rfl ?_
   refine rs rfl rfl (ok_pickb (t := true) (d := true) rfl rfl rfl) ?_
   refine ro_nil ?_
   refine keepK hK8 [5, 6, 7, 20] (by dsimp) (by dsimp) ?_
   refine T.cond_true rfl ?_
   refine T.seq fun K9 hK9 => ?_
   refine T.region ?_
   refine rs rfl rfl (ok_moveb (c := false) (.inr rfl) rfl) ?_
   refine ro_nil ?_
   refine keepK hK9 [2] (by dsimp) (by dsimp) ?_
   refine T.ret (hQ _ _ _ rfl ?_).1 -- ret 1
   rw [hbad (by simp [ok20]; omega)]; exact TEnt.toH rfl ⟨rfl, trivial⟩
  ·(try simp only [dE] at hb)
   refine rs rfl rfl (ok_move (.inl rfl)) ?_
   refine rs rfl rfl (ok_nilCheck rfl rfl) ?_
   refine rs rfl rfl (by exact ok_load rfl ti_int (cl := CC c) (f := i + 1) rfl (CC_get hx)) ?_
   refine rs rfl rfl (ok_binOp rfl ti_int rfl) ?_
   refine rs rfl rfl (ok_pick rfl rfl) ?_
   refine ro_nil ?_
   refine keepK hK8 [5, 6, 7, 20] (by dsimp) (by dsimp) ?_
   refine T.cond rfl (fun hc => ?_) (fun hc => ?_) -- cond 2
   ·(try simp only [dE] at hc)
    refine T.seq fun K10 hK10 => ?_
    refine T.region ?_
    refine rs rfl rfl (ok_moveb (c := false) (.inr rfl) rfl) ?_
    refine ro_nil ?_
    refine keepK hK10 [2] (by dsimp) (by dsimp) ?_
    refine T.ret (hQ _ _ _ rfl ?_).1 -- ret 2
    rw [hbad (by simp [ok20]; omega)]; exact TEnt.toH rfl ⟨rfl, trivial⟩
   ·(try simp only [dE] at hc)
    refine T.skip ?_
    refine keepK hK6 [5, 6, 7] (by dsimp) (by dsimp) ?_
    refine T.region ?_
    refine rs rfl rfl (ok_add64 rfl ti_int rfl rfl (by omega) (by omega)) ?_
    refine rs rfl rfl (ok_move (.inl rfl)) ?_
    refine ro_nil ?_
    exact ⟨i + 1, ⟨by omega, by rw [htk, List.all_append, hall]; simp [ok20]; omega⟩, by omega, TEnt.toH rfl ⟨rfl, rfl, rfl, trivial⟩⟩
 ·(try simp only [dE] at hc)
  have hi10 : i = 10 := by omega
  subst hi10
  have hgood : saneC c = true := by
    unfold saneC
    rw [List.take_of_length_le (by simp [Cf.l])] at hall
    exact hall
  rw [hgood] at hQ
  refine T.exit ?_
  refine keepK hK2 [] (by dsimp) (by dsimp) ?_
  refine T.seq fun K11 hK11 => ?_
  refine T.region ?_
  refine rs rfl rfl (ok_moveb (c := true) (.inr rfl) rfl) ?_
  refine ro_nil ?_
  refine keepK hK11 [2] (by dsimp) (by dsimp) ?_
  refine T.ret (hQ _ _ _ rfl ?_).1 -- ret 3
  exact TEnt.toH rfl ⟨rfl, trivial⟩
theorem of_sane (c : Cf) (f : FuncId) (x : Int) (hs : saneC c = true) (hf : CSpec Tryz.prog f [CB c] [.ref 0 0 0] [some (CB c)] (.int x)) : CSpec Tryz.prog 90 [CB c] [.agg (CC c), .fn (.func f) [] [.ref 0 0 0]] [some (CB c)] (.int x) := by
 refine CSpec.body Tryz.func90 rfl rfl rfl rfl rfl fun Q hQ => ?_
 refine T.seq fun K1 hK1 => ?_
 refine T.region ?_
 refine rs rfl rfl (ok_box (n := 11) rfl rfl (by decide)) ?_
 refine rs rfl rfl (ok_move (.inr rfl)) ?_
 refine ro_nil ?_
 refine keepK hK1 [1, 2] (by dsimp) (by dsimp) ?_
 refine T.seq fun K2 hK2 => ?_
 refine T.seq fun K3 hK3 => ?_
 refine T.region ?_
 refine ro rfl rfl (ok_call rfl rfl rfl (((numbers_new c).pass [1] (by decide) (by simp) (by simp [normH, hget]; exact CB_ren _ _) rfl).eq (x' := .sl 2 0 10) (H'' := [some (CB c), some (CB c), some ⟨1, true, [.ref 1 0 1, .ref 1 0 2, .ref 1 0 3, .ref 1 0 4, .ref 1 0 5, .ref 1 0 6, .ref 1 0 7, .ref 1 0 8, .ref 1 0 9, .ref 1 0 10]⟩]) rfl (by simp [mergeH, setIds, renH, CB_ren]; rfl))) ?_
 refine ro rfl rfl (ok_call rfl rfl rfl (((sane_ok c).pass [1, 2] (by decide) (by simp) (by simp [normH, hget, CB_ren]; rfl) rfl).eq (x' := .b true) (H'' := [some (CB c), some (CB c), some ⟨1, true, [.ref 1 0 1, .ref 1 0 2, .ref 1 0 3, .ref 1 0 4, .ref 1 0 5, .ref 1 0 6, .ref 1 0 7, .ref 1 0 8, .ref 1 0 9, .ref 1 0 10]⟩]) (by rw [hs]; rfl) (by simp [mergeH, setIds, renH, CB_ren]; rfl))) ?_
 refine rs rfl rfl (OpOk.bool (d := false) (ok_unOp rfl rfl) (rfl)) ?_
 refine ro_nil ?_
 refine keepK hK3 [1, 7] (by dsimp) (by dsimp) ?_
 refine T.cond_false rfl ?_
 refine T.skip ?_
 refine keepK hK2 [1] (by dsimp) (by dsimp) ?_
 refine T.seq fun K4 hK4 => ?_
 refine T.region ?_
 refine rs rfl rfl (ok_move (.inl rfl)) ?_
 refine ro rfl rfl (ok_call rfl rfl rfl ((hf.pass [0] (by decide) (by simp) (by simp [normH, hget, CB_ren]) rfl).eq (x' := .int x) (H'' := [some (CB c), some (CB c), some ⟨1, true, [.ref 1 0 1, .ref 1 0 2, .ref 1 0 3, .ref 1 0 4, .ref 1 0 5, .ref 1 0 6, .ref 1 0 7, .ref 1 0 8, .ref 1 0 9, .ref 1 0 10]⟩]) rfl (by simp [mergeH, setIds, renH, CB_ren]))) ?_
 refine rs rfl rfl (ok_move (.inr rfl)) ?_
 refine ro_nil ?_
 refine keepK hK4 [4] (by dsimp) (by dsimp) ?_
 refine T.ret (hQ _ _ _ rfl ?_).1 -- ret 1
 exact TEnt.fin [0] (by decide) (by simp) (by simp [normH, hget, CB_ren]) ⟨rfl, trivial⟩
theorem of_none (c : Cf) (f : FuncId) (hs : saneC c = false) : CSpec Tryz.prog 90 [CB c] [.agg (CC c), .fn (.func f) [] [.ref 0 0 0]] [some (CB c)] (.int 0) := by
 refine CSpec.body Tryz.func90 rfl rfl rfl rfl rfl fun Q hQ => ?_
 refine T.seq fun K1 hK1 => ?_
 refine T.region ?_
 refine rs rfl rfl (ok_box (n := 11) rfl rfl (by decide)) ?_
 refine rs rfl rfl (ok_move (.inr rfl)) ?_
 refine ro_nil ?_
 refine keepK hK1 [1, 2] (by dsimp) (by dsimp) ?_
 refine T.seq fun K2 hK2 => ?_
 refine T.seq fun K3 hK3 => ?_
 refine T.region ?_
 refine ro rfl rfl (ok_call rfl rfl rfl (((numbers_new c).pass [1] (by decide) (by simp) (by simp [normH, hget]; exact CB_ren _ _) rfl).eq (x' := .sl 2 0 10) (H'' := [some (CB c), some (CB c), some ⟨1, true, [.ref 1 0 1, .ref 1 0 2, .ref 1 0 3, .ref 1 0 4, .ref 1 0 5, .ref 1 0 6, .ref 1 0 7, .ref 1 0 8, .ref 1 0 9, .ref 1 0 10]⟩]) rfl (by simp [mergeH, setIds, renH, CB_ren]; rfl))) ?_
 refine ro rfl rfl (ok_call rfl rfl rfl (((sane_ok c).pass [1, 2] (by decide) (by simp) (by simp [normH, hget, CB_ren]; rfl) rfl).eq (x' := .b false) (H'' := [some (CB c), some (CB c), some ⟨1, true, [.ref 1 0 1, .ref 1 0 2, .ref 1 0 3, .ref 1 0 4, .ref 1 0 5, .ref 1 0 6, .ref 1 0 7, .ref 1 0 8, .ref 1 0 9, .ref 1 0 10]⟩]) (by rw [hs]; rfl) (by simp [mergeH, setIds, renH, CB_ren]; rfl))) ?_
 refine rs rfl rfl (OpOk.bool (d := true) (ok_unOp rfl rfl) (rfl)) ?_
 refine ro_nil ?_
 refine keepK hK3 [1, 7] (by dsimp) (by dsimp) ?_
 refine T.cond_true rfl ?_
 refine T.seq fun K4 hK4 => ?_
 refine T.region ?_
 refine rs rfl rfl (ok_move (.inr rfl)) ?_
 refine ro_nil ?_
 refine keepK hK4 [4] (by dsimp) (by dsimp) ?_
 refine T.ret (hQ _ _ _ rfl ?_).1 -- ret 1
 exact TEnt.fin [0] (by decide) (by simp) (by simp [normH, hget, CB_ren]) ⟨rfl, trivial⟩
theorem of_ok (c : Cf) (f : FuncId) (x : Int) (hf : saneC c = true → CSpec Tryz.prog f [CB c] [.ref 0 0 0] [some (CB c)] (.int x)) : CSpec Tryz.prog 90 [CB c] [.agg (CC c), .fn (.func f) [] [.ref 0 0 0]] [some (CB c)] (.int (if saneC c = true then x else 0)) := by
  by_cases hs : saneC c = true
  · rw [if_pos hs]; exact of_sane c f x hs (hf hs)
  · rw [if_neg hs]; exact of_none c f (by simpa using hs)
theorem row1_ok (c : Cf) (hs : saneC c = true) : CSpec Tryz.prog 120 [CB c] [.ref 0 0 0] [some (CB c)] (.int ((c.mem - 1) * c.unit)) := by
 rw [saneC_iff] at hs
 obtain ⟨⟨a1, b1⟩, ⟨a2, b2⟩, _⟩ := hs
 have hb := mul_bd (a := c.mem - 1) (b := c.unit) (A := 1048576) (B := 1048576) (by omega) (by omega) (by omega) b2
 refine CSpec.body Tryz.func120 rfl rfl rfl rfl rfl fun Q hQ => ?_
 refine T.seq fun K1 hK1 => ?_
 refine T.region ?_
 refine rs rfl rfl (ok_move (.inr rfl)) ?_
 refine ro_nil ?_
 refine keepK hK1 [0] (by dsimp) (by dsimp) ?_
 refine T.seq fun K2 hK2 => ?_
 refine T.region ?_
 refine rs rfl rfl (ok_fieldAddr rfl ti_api_Conf rfl rfl ti_int (by decide) rfl) ?_
 refine rs rfl rfl (ok_load rfl ti_int rfl rfl) ?_
 refine rs rfl rfl (ok_sub64 rfl ti_int rfl rfl (by omega) (by omega)) ?_
 refine rs rfl rfl (ok_fieldAddr rfl ti_api_Conf rfl rfl ti_int (by decide) rfl) ?_
 refine rs rfl rfl (ok_load rfl ti_int rfl rfl) ?_
 refine rs rfl rfl (ok_mul64 rfl ti_int rfl rfl (by omega) (by omega)) ?_
 refine rs rfl rfl (ok_move (.inr rfl)) ?_
 refine ro_nil ?_
 refine keepK hK2 [1] (by dsimp) (by dsimp) ?_
 refine T.ret (hQ _ _ _ rfl ?_).1 -- ret 1
 exact TEnt.toH rfl ⟨rfl, trivial⟩
theorem row_ok (c : Cf) : CSpec Tryz.prog 108 [] [.agg (CC c)] [] (.int (rowC c)) := by
 refine CSpec.body Tryz.func108 rfl rfl rfl rfl rfl fun Q hQ => ?_
 refine T.seq fun K1 hK1 => ?_
 refine T.region ?_
 refine rs rfl rfl (ok_box (n := 11) rfl rfl (by decide)) ?_
 refine rs rfl rfl (ok_move (.inr rfl)) ?_
 refine ro_nil ?_
 refine keepK hK1 [1] (by dsimp) (by dsimp) ?_
 refine T.seq fun K2 hK2 => ?_
 refine T.region ?_
 refine rs rfl rfl (ok_load rfl ti_api_Conf rfl rfl) ?_
 refine rs rfl rfl (ok_makeFunc rfl) ?_
 refine ro rfl rfl (ok_call rfl rfl rfl (((of_ok c _ _ (row1_ok c)).pass [0] (by decide) (by simp) (by simp [normH, hget]; exact CB_ren _ _) rfl).eq (x' := .int (rowC c)) (H'' := [some (CB c)]) rfl (by simp [mergeH, setIds, renH, CB_ren]))) ?_
 refine rs rfl rfl (ok_move (.inr rfl)) ?_
 refine ro_nil ?_
 refine keepK hK2 [2] (by dsimp) (by dsimp) ?_
 refine T.ret (hQ _ _ _ rfl ?_).1 -- ret 1
 exact TEnt.fin [] (by decide) (by simp) rfl ⟨rfl, trivial⟩
theorem stripes1_ok (c : Cf) (hs : saneC c = true) : CSpec Tryz.prog 119 [CB c] [.ref 0 0 0] [some (CB c)] (.int (c.cap / c.unit)) := by
 rw [saneC_iff] at hs
 refine CSpec.body Tryz.func119 rfl rfl rfl rfl rfl fun Q hQ => ?_
 refine T.seq fun K1 hK1 => ?_
 refine T.region ?_
 refine rs rfl rfl (ok_move (.inr rfl)) ?_
 refine ro_nil ?_
 refine keepK hK1 [0] (by dsimp) (by dsimp) ?_
 refine T.seq fun K2 hK2 => ?_
 refine T.region ?_
 refine rs rfl rfl (ok_fieldAddr rfl ti_api_Conf rfl rfl ti_int (by decide) rfl) ?_
 refine rs rfl rfl (ok_load rfl ti_int rfl rfl) ?_
 refine rs rfl rfl (ok_fieldAddr rfl ti_api_Conf rfl rfl ti_int (by decide) rfl) ?_
 refine rs rfl rfl (ok_load rfl ti_int rfl rfl) ?_
 refine rs rfl rfl (ok_quo64 rfl ti_int rfl rfl (by omega) (by omega) (by omega)) ?_
 refine rs rfl rfl (ok_move (.inr rfl)) ?_
 refine ro_nil ?_
 refine keepK hK2 [1] (by dsimp) (by dsimp) ?_
 refine T.ret (hQ _ _ _ rfl ?_).1 -- ret 1
 exact TEnt.toH rfl ⟨rfl, trivial⟩
theorem stripes_ok (c : Cf) : CSpec Tryz.prog 107 [] [.agg (CC c)] [] (.int (stripesC c)) := by
 refine CSpec.body Tryz.func107 rfl rfl rfl rfl rfl fun Q hQ => ?_
 refine T.seq fun K1 hK1 => ?_
 refine T.region ?_
 refine rs rfl rfl (ok_box (n := 11) rfl rfl (by decide)) ?_
 refine rs rfl rfl (ok_move (.inr rfl)) ?_
 refine ro_nil ?_
 refine keepK hK1 [1] (by dsimp) (by dsimp) ?_
 refine T.seq fun K2 hK2 => ?_
 refine T.region ?_
 refine rs rfl rfl (ok_load rfl ti_api_Conf rfl rfl) ?_
 refine rs rfl rfl (ok_makeFunc rfl) ?_
 refine ro rfl rfl (ok_call rfl rfl rfl (((of_ok c _ _ (stripes1_ok c)).pass [0] (by decide) (by simp) (by simp [normH, hget]; exact CB_ren _ _) rfl).eq (x' := .int (stripesC c)) (H'' := [some (CB c)]) rfl (by simp [mergeH, setIds, renH, CB_ren]))) ?_
 refine rs rfl rfl (ok_move (.inr rfl)) ?_
 refine ro_nil ?_
 refine keepK hK2 [2] (by dsimp) (by dsimp) ?_
 refine T.ret (hQ _ _ _ rfl ?_).1 -- ret 1
 exact TEnt.fin [] (by decide) (by simp) rfl ⟨rfl, trivial⟩
theorem size_bd (c : Cf) : 0 ≤ rowC c ∧ rowC c ≤ 1099511627776 ∧ 0 ≤ stripesC c ∧ stripesC c ≤ 1048576 ∧ 0 ≤ sizeC c ∧ sizeC c ≤ 1152921504606846976 := by
  have h1 : 0 ≤ rowC c ∧ rowC c ≤ 1099511627776 := by
    unfold rowC
    split
    · rename_i hs
      rw [saneC_iff] at hs
      have hb := mul_bd (a := c.mem - 1) (b := c.unit) (A := 1048576) (B := 1048576) (by omega) (by omega) (by omega) (by omega)
      omega
    · omega
  have h2 : 0 ≤ stripesC c ∧ stripesC c ≤ 1048576 := by
    unfold stripesC
    split
    · rename_i hs
      rw [saneC_iff] at hs
      have q1 := Int.ediv_nonneg (a := c.cap) (b := c.unit) (by omega) (by omega)
      have q2 := Int.ediv_le_self (a := c.cap) c.unit (by omega)
      omega
    · omega
  have h3 := mul_bd (a := stripesC c) (b := rowC c) (A := 1048576) (B := 1099511627776) h2.1 h2.2 h1.1 h1.2
  unfold sizeC
  omega
theorem size_ok (c : Cf) : CSpec Tryz.prog 75 [] [.agg (CC c)] [] (.int (sizeC c)) := by
 have hb := size_bd c
 unfold sizeC at hb
 refine CSpec.body Tryz.func75 rfl rfl rfl rfl rfl fun Q hQ => ?_
 refine T.seq fun K1 hK1 => ?_
 refine T.region ?_
 refine rs rfl rfl (ok_box (n := 11) rfl rfl (by decide)) ?_
 refine rs rfl rfl (ok_move (.inr rfl)) ?_
 refine ro_nil ?_
 refine keepK hK1 [1] (by dsimp) (by dsimp) ?_
 refine T.seq fun K2 hK2 => ?_
 refine T.drawH mixed [] ?_
 refine any_take 0 rfl (by first | rfl | decide +kernel) rfl (HeldL.refl _) (fun H' hH => OpOk.step (ok_load rfl ti_api_Conf (locA_held hH rfl) rfl)) ?_
 refine any_take 2 rfl (by first | rfl | decide +kernel) rfl (HeldL.refl _) (fun H' hH => OpOk.step (ok_load rfl ti_api_Conf (locA_held hH rfl) rfl)) ?_
 refine any_one 1 rfl (by first | rfl | decide +kernel) rfl rfl (ok_call rfl rfl rfl ((stripes_ok c).plain rfl rfl)) (.inr (by first | (simp [HeldL]; done) | (simp only [dH]; (repeat' first | trivial | rfl | constructor)))) ?_
 refine any_one 3 rfl (by first | rfl | decide +kernel) rfl rfl (ok_call rfl rfl rfl ((row_ok c).plain rfl rfl)) (.inr (by first | (simp [HeldL]; done) | (simp only [dH]; (repeat' first | trivial | rfl | constructor)))) ?_
 refine any_take 4 rfl (by first | rfl | decide +kernel) rfl (by first | exact HeldL.refl _ | exact HeldL.append _ _ | simp [HeldL]) (fun H' hH => OpOk.step (ok_mul64 rfl ti_int rfl rfl (by omega) (by omega))) ?_
 refine any_take 5 rfl (by first | rfl | decide +kernel) rfl (by first | exact HeldL.refl _ | exact HeldL.append _ _ | simp [HeldL]) (fun H' hH => OpOk.step (ok_move (.inr rfl))) ?_
 refine any_done rfl ?_
 refine keepK hK2 [2] (by dsimp) (by dsimp) ?_
 refine T.ret (hQ _ _ _ rfl ?_).1 -- ret 1
 exact TEnt.fin [] (by decide) (by simp) rfl ⟨rfl, trivial⟩
theorem all1_ok (c : Cf) (hs : saneC c = true) : CSpec Tryz.prog 91 [CB c] [.ref 0 0 0] [some (CB c)] (.int (c.met + c.zon + c.spa)) := by
 rw [saneC_iff] at hs
 refine CSpec.body Tryz.func91 rfl rfl rfl rfl rfl fun Q hQ => ?_
 refine T.seq fun K1 hK1 => ?_
 refine T.region ?_
 refine rs rfl rfl (ok_move (.inr rfl)) ?_
 refine ro_nil ?_
 refine keepK hK1 [0] (by dsimp) (by dsimp) ?_
 refine T.seq fun K2 hK2 => ?_
 refine T.region ?_
 refine rs rfl rfl (ok_fieldAddr rfl ti_api_Conf rfl rfl ti_int (by decide) rfl) ?_
 refine rs rfl rfl (ok_load rfl ti_int rfl rfl) ?_
 refine rs rfl rfl (ok_fieldAddr rfl ti_api_Conf rfl rfl ti_int (by decide) rfl) ?_
 refine rs rfl rfl (ok_load rfl ti_int rfl rfl) ?_
 refine rs rfl rfl (ok_add64 rfl ti_int rfl rfl (by omega) (by omega)) ?_
 refine rs rfl rfl (ok_fieldAddr rfl ti_api_Conf rfl rfl ti_int (by decide) rfl) ?_
 refine rs rfl rfl (ok_load rfl ti_int rfl rfl) ?_
 refine rs rfl rfl (ok_add64 rfl ti_int rfl rfl (by omega) (by omega)) ?_
 refine rs rfl rfl (ok_move (.inr rfl)) ?_
 refine ro_nil ?_
 refine keepK hK2 [1] (by dsimp) (by dsimp) ?_
 refine T.ret (hQ _ _ _ rfl ?_).1 -- ret 1
 exact TEnt.toH rfl ⟨rfl, trivial⟩
theorem all_ok (c : Cf) : CSpec Tryz.prog 59 [] [.agg (CC c)] [] (.int (allC c)) := by
 refine CSpec.body Tryz.func59 rfl rfl rfl rfl rfl fun Q hQ => ?_
 refine T.seq fun K1 hK1 => ?_
 refine T.region ?_
 refine rs rfl rfl (ok_box (n := 11) rfl rfl (by decide)) ?_
 refine rs rfl rfl (ok_move (.inr rfl)) ?_
 refine ro_nil ?_
 refine keepK hK1 [1] (by dsimp) (by dsimp) ?_
 refine T.seq fun K2 hK2 => ?_
 refine T.region ?_
 refine rs rfl rfl (ok_load rfl ti_api_Conf rfl rfl) ?_
 refine rs rfl rfl (ok_makeFunc rfl) ?_
 refine ro rfl rfl (ok_call rfl rfl rfl (((of_ok c _ _ (all1_ok c)).pass [0] (by decide) (by simp) (by simp [normH, hget]; exact CB_ren _ _) rfl).eq (x' := .int (allC c)) (H'' := [some (CB c)]) rfl (by simp [mergeH, setIds, renH, CB_ren]))) ?_
 refine rs rfl rfl (ok_move (.inr rfl)) ?_
 refine ro_nil ?_
 refine keepK hK2 [2] (by dsimp) (by dsimp) ?_
 refine T.ret (hQ _ _ _ rfl ?_).1 -- ret 1
 exact TEnt.fin [] (by decide) (by simp) rfl ⟨rfl, trivial⟩
theorem head_bd {c : Cf} (hs : saneC c = true) : (0 ≤ (c.zon + 1) * c.unit ∧ (c.zon + 1) * c.unit ≤ 1099512676352) ∧ (0 ≤ (c.zon + 1) * c.unit * c.blk ∧ (c.zon + 1) * c.unit * c.blk ≤ 1152922604119523328) ∧ 320 ≤ headC c ∧ headC c ≤ 1152922604200000000 := by
  rw [saneC_iff] at hs
  have h1 := mul_bd (a := c.zon + 1) (b := c.unit) (A := 1048577) (B := 1048576) (by omega) (by omega) (by omega) (by omega)
  have h2 := mul_bd (a := (c.zon + 1) * c.unit) (b := c.blk) (A := 1099512676352) (B := 1048576) h1.1 (by omega) (by omega) (by omega)
  unfold headC
  omega
theorem quo_bd {a b B : Int} (h : 0 ≤ a) (h' : a ≤ B) (hb : 0 < b) : 0 ≤ a / b ∧ a / b ≤ B := ⟨Int.ediv_nonneg h (by omega), Int.le_trans (Int.ediv_le_self _ h) h'⟩
theorem ceil_eq (n d : Int) (hd : 1 ≤ d) : (n + d - 1) / d = if n % d > 0 then n / d + 1 else n / d := by
  have h := Int.emod_add_mul_ediv n d
  have r0 := Int.emod_nonneg n (by omega : d ≠ 0)
  have r1 := Int.emod_lt_of_pos n (by omega : 0 < d)
  split
  · have e : n + d - 1 = (n % d - 1) + d * (n / d + 1) := by rw [Int.mul_add]; omega
    rw [e, Int.add_mul_ediv_left _ _ (by omega : d ≠ 0), Int.ediv_eq_zero_of_lt (by omega) (by omega)]; omega
  · have e : n + d - 1 = (d - 1) + d * (n / d) := by omega
    rw [e, Int.add_mul_ediv_left _ _ (by omega : d ≠ 0), Int.ediv_eq_zero_of_lt (by omega) (by omega)]; omega
theorem room1_ok (c : Cf) (hs : saneC c = true) : CSpec Tryz.prog 92 [CB c] [.ref 0 0 0] [some (CB c)] (.int ((headC c + c.blk - 1) / c.blk + 2)) := by
 have hb := head_bd hs
 rw [saneC_iff] at hs
 have hq := quo_bd (a := headC c + c.blk - 1) (b := c.blk) (B := 1152922604300000000) (by omega) (by omega) (by omega)
 refine CSpec.body Tryz.func92 rfl rfl rfl rfl rfl fun Q hQ => ?_
 refine T.seq fun K1 hK1 => ?_
 refine T.region ?_
 refine rs rfl rfl (ok_move (.inr rfl)) ?_
 refine ro_nil ?_
 refine keepK hK1 [0] (by dsimp) (by dsimp) ?_
 refine T.seq fun K2 hK2 => ?_
 refine T.region ?_
 refine rs rfl rfl (ok_fieldAddr rfl ti_api_Conf rfl rfl ti_int (by decide) rfl) ?_
 refine rs rfl rfl (ok_load rfl ti_int rfl rfl) ?_
 refine rs rfl rfl (ok_mul64 rfl ti_int rfl rfl (by omega) (by omega)) ?_
 refine rs rfl rfl (ok_add64 rfl ti_int rfl rfl (by omega) (by omega)) ?_
 refine rs rfl rfl (ok_fieldAddr rfl ti_api_Conf rfl rfl ti_int (by decide) rfl) ?_
 refine rs rfl rfl (ok_load rfl ti_int rfl rfl) ?_
 refine rs rfl rfl (ok_mul64 rfl ti_int rfl rfl (by omega) (by omega)) ?_
 refine rs rfl rfl (ok_add64 rfl ti_int rfl rfl (by omega) (by omega)) ?_
 refine rs rfl rfl (ok_fieldAddr rfl ti_api_Conf rfl rfl ti_int (by decide) rfl) ?_
 refine rs rfl rfl (ok_load rfl ti_int rfl rfl) ?_
 refine rs rfl rfl (ok_add64 rfl ti_int rfl rfl (by omega) (by omega)) ?_
 refine rs rfl rfl (ok_fieldAddr rfl ti_api_Conf rfl rfl ti_int (by decide) rfl) ?_
 refine rs rfl rfl (ok_load rfl ti_int rfl rfl) ?_
 refine rs rfl rfl (ok_mul64 rfl ti_int rfl rfl (by omega) (by omega)) ?_
 refine rs rfl rfl (ok_fieldAddr rfl ti_api_Conf rfl rfl ti_int (by decide) rfl) ?_
 refine rs rfl rfl (ok_load rfl ti_int rfl rfl) ?_
 refine rs rfl rfl (ok_mul64 rfl ti_int rfl rfl (by omega) (by omega)) ?_
 refine rs rfl rfl ((ok_add64 rfl ti_int rfl rfl (by omega) (by omega)).eq (x' := .int (headC c)) (congrArg AV.int (by unfold headC; omega)) rfl) ?_
 refine rs rfl rfl (ok_move (.inr rfl)) ?_
 refine ro_nil ?_
 refine keepK hK2 [0, 2] (by dsimp) (by dsimp) ?_
 refine T.seq fun K3 hK3 => ?_
 refine T.region ?_
 refine rs rfl rfl (ok_move (.inl rfl)) ?_
 refine rs rfl rfl (ok_fieldAddr rfl ti_api_Conf rfl rfl ti_int (by decide) rfl) ?_
 refine rs rfl rfl (ok_load rfl ti_int rfl rfl) ?_
 refine rs rfl rfl (ok_add64 rfl ti_int rfl rfl (by omega) (by omega)) ?_
 refine rs rfl rfl (ok_sub64 rfl ti_int rfl rfl (by omega) (by omega)) ?_
 refine rs rfl rfl (ok_fieldAddr rfl ti_api_Conf rfl rfl ti_int (by decide) rfl) ?_
 refine rs rfl rfl (ok_load rfl ti_int rfl rfl) ?_
 refine rs rfl rfl (ok_quo64 rfl ti_int rfl rfl (by omega) (by omega) (by omega)) ?_
 refine rs rfl rfl (ok_add64 rfl ti_int rfl rfl (by omega) (by omega)) ?_
 refine rs rfl rfl (ok_move (.inr rfl)) ?_
 refine ro_nil ?_
 refine keepK hK3 [1] (by dsimp) (by dsimp) ?_
 refine T.ret (hQ _ _ _ rfl ?_).1 -- ret 1
 exact TEnt.toH rfl ⟨rfl, trivial⟩
theorem room_ok (c : Cf) : CSpec Tryz.prog 60 [] [.agg (CC c)] [] (.int (roomC c)) := by
 refine CSpec.body Tryz.func60 rfl rfl rfl rfl rfl fun Q hQ => ?_
 refine T.seq fun K1 hK1 => ?_
 refine T.region ?_
 refine rs rfl rfl (ok_box (n := 11) rfl rfl (by decide)) ?_
 refine rs rfl rfl (ok_move (.inr rfl)) ?_
 refine ro_nil ?_
 refine keepK hK1 [1] (by dsimp) (by dsimp) ?_
 refine T.seq fun K2 hK2 => ?_
 refine T.region ?_
 refine rs rfl rfl (ok_load rfl ti_api_Conf rfl rfl) ?_
 refine rs rfl rfl (ok_makeFunc rfl) ?_
 refine ro rfl rfl (ok_call rfl rfl rfl (((of_ok c _ _ (room1_ok c)).pass [0] (by decide) (by simp) (by simp [normH, hget]; exact CB_ren _ _) rfl).eq (x' := .int (roomC c)) (H'' := [some (CB c)]) rfl (by simp [mergeH, setIds, renH, CB_ren]))) ?_
 refine rs rfl rfl (ok_move (.inr rfl)) ?_
 refine ro_nil ?_
 refine keepK hK2 [2] (by dsimp) (by dsimp) ?_
 refine T.ret (hQ _ _ _ rfl ?_).1 -- ret 1
 exact TEnt.fin [] (by decide) (by simp) rfl ⟨rfl, trivial⟩
theorem in_ok (n lo hi : Int) : CSpec Tryz.prog 58 [] [.int n, .int lo, .int hi] [] (.b (decide (lo ≤ n ∧ n ≤ hi))) := by
 refine CSpec.body Tryz.func58 rfl rfl rfl rfl rfl fun Q hQ => ?_
 refine T.seq fun K1 hK1 => ?_
 refine T.region ?_
 refine rs rfl rfl (ok_moveb (c := false) (.inr rfl) rfl) ?_
 refine ro_nil ?_
 refine keepK hK1 [0, 1, 2] (by dsimp) (by dsimp) ?_
 refine T.seq fun K2 hK2 => ?_
 refine T.region ?_
 refine rs rfl rfl (ok_move (.inl rfl)) ?_
 refine rs rfl rfl (ok_move (.inl rfl)) ?_
 refine rs rfl rfl (ok_binOp rfl ti_int rfl) ?_
 refine ro_case rfl rfl (OpOk.step (ok_moveb (.inl rfl) rfl)) (fun hb => ?_) (fun hb => ?_)
 ·(try simp only [dE] at hb)
  refine rs rfl rfl (ok_move (.inl rfl)) ?_
  refine rs rfl rfl (ok_move (.inl rfl)) ?_
  refine rs rfl rfl (ok_binOp rfl ti_int rfl) ?_
  refine rs rfl rfl (ok_pick rfl rfl) ?_
  refine rs rfl rfl (ok_move (.inr rfl)) ?_
  refine ro_nil ?_
  refine keepK hK2 [6] (by dsimp) (by dsimp) ?_
  refine T.ret (hQ _ _ _ rfl ?_).1 -- ret 1
  exact by (have e : decide (lo ≤ n ∧ n ≤ hi) = decide (n ≤ hi) := (by rw [decide_eq_decide]; omega); rw [e]; exact TEnt.toH rfl ⟨rfl, trivial⟩)
 ·(try simp only [dE] at hb)
  refine ro_skip rfl rfl ?_
  refine ro_skip rfl rfl ?_
  refine ro_skip rfl rfl ?_
  refine rs rfl rfl (ok_pickb (t := false) (d := false) rfl rfl rfl) ?_
  refine rs rfl rfl (ok_moveb (c := false) (.inr rfl) rfl) ?_
  refine ro_nil ?_
  refine keepK hK2 [6] (by dsimp) (by dsimp) ?_
  refine T.ret (hQ _ _ _ rfl ?_).1 -- ret 2
  exact by (rw [decide_eq_false (by omega : ¬ (lo ≤ n ∧ n ≤ hi))]; exact TEnt.toH rfl ⟨rfl, trivial⟩)
theorem check_ok (c : Cf) : CSpec Tryz.prog 27 [] [.agg (CC c)] [] (.int (chkC c)) := by
 refine CSpec.body Tryz.func27 rfl rfl rfl rfl rfl fun Q hQ => ?_
 refine T.seq fun K1 hK1 => ?_
 refine T.region ?_
 refine rs rfl rfl (ok_box (n := 11) rfl rfl (by decide)) ?_
 refine rs rfl rfl (ok_move (.inr rfl)) ?_
 refine ro_nil ?_
 refine keepK hK1 [1] (by dsimp) (by dsimp) ?_
 refine T.seq fun K2 hK2 => ?_
 refine T.region ?_
 refine rs rfl rfl (ok_move (.inr rfl)) ?_
 refine ro_nil ?_
 refine keepK hK2 [1, 3] (by dsimp) (by dsimp) ?_
 refine T.seq fun K3 hK3 => ?_
 refine T.block ?_
 refine T.seq fun K4 hK4 => ?_
 refine T.region ?_
 refine rs rfl rfl (ok_move (.inl rfl)) ?_
 refine rs rfl rfl (ok_fieldAddr rfl ti_api_Conf rfl rfl ti_int (by decide) rfl) ?_
 refine rs rfl rfl (ok_load rfl ti_int rfl rfl) ?_
 refine ro rfl rfl (ok_call rfl rfl rfl ((in_ok c.id 0 1099511627776).plain rfl rfl)) ?_
 refine rs rfl rfl (ok_unOp rfl rfl) ?_
 refine ro_case rfl rfl (OpOk.step (ok_moveb (.inl rfl) rfl)) (fun hb => ?_) (fun hb => ?_)
 ·(try simp only [dE] at hb)
  refine ro_skip rfl rfl ?_
  refine ro_skip rfl rfl ?_
  refine ro_skip rfl rfl ?_
  refine ro_skip rfl rfl ?_
  refine ro_skip rfl rfl ?_
  refine rs rfl rfl (ok_pickb (t := true) (d := true) rfl rfl rfl) ?_
  refine rs rfl rfl (ok_moveb (c := true) (.inl rfl) rfl) ?_
  refine ro_skip rfl rfl ?_
  refine ro_skip rfl rfl ?_
  refine ro_skip rfl rfl ?_
  refine ro_skip rfl rfl ?_
  refine ro_skip rfl rfl ?_
  refine rs rfl rfl (ok_pickb (t := true) (d := true) rfl rfl rfl) ?_
  refine rs rfl rfl (ok_moveb (c := true) (.inr rfl) rfl) ?_
  refine ro_nil ?_
  refine keepK hK4 [1, 3, 4] (by dsimp) (by dsimp) ?_
  refine T.cond_true rfl ?_
  refine T.seq fun K5 hK5 => ?_
  refine T.region ?_
  refine rs rfl rfl (ok_move (.inr rfl)) ?_
  refine ro_nil ?_
  refine keepK hK5 [2] (by dsimp) (by dsimp) ?_
  refine T.ret (hQ _ _ _ rfl ?_).1 -- ret 1
  exact by (rw [chk_bad (by unfold okC; omega)]; exact TEnt.fin [] (by decide) (by simp) rfl ⟨rfl, trivial⟩)
 ·(try simp only [dE] at hb)
  refine rs rfl rfl (ok_move (.inl rfl)) ?_
  refine rs rfl rfl (ok_fieldAddr rfl ti_api_Conf rfl rfl ti_int (by decide) rfl) ?_
  refine rs rfl rfl (ok_load rfl ti_int rfl rfl) ?_
  refine ro rfl rfl (ok_call rfl rfl rfl ((in_ok c.mem 3 16).plain rfl rfl)) ?_
  refine rs rfl rfl (ok_unOp rfl rfl) ?_
  refine rs rfl rfl (ok_pick rfl rfl) ?_
  refine ro_case rfl rfl (OpOk.step (ok_moveb (.inl rfl) rfl)) (fun hb => ?_) (fun hb => ?_)
  ·(try simp only [dE] at hb)
   refine ro_skip rfl rfl ?_
   refine ro_skip rfl rfl ?_
   refine ro_skip rfl rfl ?_
   refine ro_skip rfl rfl ?_
   refine ro_skip rfl rfl ?_
   refine rs rfl rfl (ok_pickb (t := true) (d := true) rfl rfl rfl) ?_
   refine rs rfl rfl (ok_moveb (c := true) (.inr rfl) rfl) ?_
   refine ro_nil ?_
   refine keepK hK4 [1, 3, 4] (by dsimp) (by dsimp) ?_
   refine T.cond_true rfl ?_
   refine T.seq fun K6 hK6 => ?_
   refine T.region ?_
   refine rs rfl rfl (ok_move (.inr rfl)) ?_
   refine ro_nil ?_
   refine keepK hK6 [2] (by dsimp) (by dsimp) ?_
   refine T.ret (hQ _ _ _ rfl ?_).1 -- ret 2
   exact by (rw [chk_bad (by unfold okC; omega)]; exact TEnt.fin [] (by decide) (by simp) rfl ⟨rfl, trivial⟩)
  ·(try simp only [dE] at hb)
   refine rs rfl rfl (ok_move (.inl rfl)) ?_
   refine rs rfl rfl (ok_fieldAddr rfl ti_api_Conf rfl rfl ti_int (by decide) rfl) ?_
   refine rs rfl rfl (ok_load rfl ti_int rfl rfl) ?_
   refine ro rfl rfl (ok_call rfl rfl rfl ((in_ok c.unit 1 64).plain rfl rfl)) ?_
   refine rs rfl rfl (ok_unOp rfl rfl) ?_
   refine rs rfl rfl (ok_pick rfl rfl) ?_
   refine rs rfl rfl (ok_move (.inr rfl)) ?_
   refine ro_nil ?_
   refine keepK hK4 [1, 3, 4] (by dsimp) (by dsimp) ?_
   refine T.cond rfl (fun hc => ?_) (fun hc => ?_) -- cond 1
   ·(try simp only [dE] at hc)
    refine T.seq fun K7 hK7 => ?_
    refine T.region ?_
    refine rs rfl rfl (ok_move (.inr rfl)) ?_
    refine ro_nil ?_
    refine keepK hK7 [2] (by dsimp) (by dsimp) ?_
    refine T.ret (hQ _ _ _ rfl ?_).1 -- ret 3
    exact by (rw [chk_bad (by unfold okC; omega)]; exact TEnt.fin [] (by decide) (by simp) rfl ⟨rfl, trivial⟩)
   ·(try simp only [dE] at hc)
    refine T.seq fun K8 hK8 => ?_
    refine T.region ?_
    refine rs rfl rfl (ok_move (.inl rfl)) ?_
    refine rs rfl rfl (ok_fieldAddr rfl ti_api_Conf rfl rfl ti_int (by decide) rfl) ?_
    refine rs rfl rfl (ok_load rfl ti_int rfl rfl) ?_
    refine ro rfl rfl (ok_call rfl rfl rfl ((in_ok c.blk 1 4096).plain rfl rfl)) ?_
    refine rs rfl rfl (ok_unOp rfl rfl) ?_
    refine ro_case rfl rfl (OpOk.step (ok_moveb (.inl rfl) rfl)) (fun hb => ?_) (fun hb => ?_)
    ·(try simp only [dE] at hb)
     refine ro_skip rfl rfl ?_
     refine ro_skip rfl rfl ?_
     refine ro_skip rfl rfl ?_
     refine ro_skip rfl rfl ?_
     refine ro_skip rfl rfl ?_
     refine rs rfl rfl (ok_pickb (t := true) (d := true) rfl rfl rfl) ?_
     refine rs rfl rfl (ok_moveb (c := true) (.inl rfl) rfl) ?_
     refine ro_skip rfl rfl ?_
     refine ro_skip rfl rfl ?_
     refine ro_skip rfl rfl ?_
     refine ro_skip rfl rfl ?_
     refine ro_skip rfl rfl ?_
     refine ro_skip rfl rfl ?_
     refine rs rfl rfl (ok_pickb (t := true) (d := true) rfl rfl rfl) ?_
     refine rs rfl rfl (ok_moveb (c := true) (.inr rfl) rfl) ?_
     refine ro_nil ?_
     refine keepK hK8 [1, 3, 24] (by dsimp) (by dsimp) ?_
     refine T.cond_true rfl ?_
     refine T.seq fun K9 hK9 => ?_
     refine T.region ?_
     refine rs rfl rfl (ok_move (.inr rfl)) ?_
     refine ro_nil ?_
     refine keepK hK9 [2] (by dsimp) (by dsimp) ?_
     refine T.ret (hQ _ _ _ rfl ?_).1 -- ret 4
     exact by (rw [chk_bad (by unfold okC; omega)]; exact TEnt.fin [] (by decide) (by simp) rfl ⟨rfl, trivial⟩)
    ·(try simp only [dE] at hb)
     refine rs rfl rfl (ok_move (.inl rfl)) ?_
     refine rs rfl rfl (ok_fieldAddr rfl ti_api_Conf rfl rfl ti_int (by decide) rfl) ?_
     refine rs rfl rfl (ok_load rfl ti_int rfl rfl) ?_
     refine ro rfl rfl (ok_call rfl rfl rfl ((in_ok c.cap 1 4096).plain rfl rfl)) ?_
     refine rs rfl rfl (ok_unOp rfl rfl) ?_
     refine rs rfl rfl (ok_pick rfl rfl) ?_
     refine ro_case rfl rfl (OpOk.step (ok_moveb (.inl rfl) rfl)) (fun hb => ?_) (fun hb => ?_)
     ·(try simp only [dE] at hb)
      refine ro_skip rfl rfl ?_
      refine ro_skip rfl rfl ?_
      refine ro_skip rfl rfl ?_
      refine ro_skip rfl rfl ?_
      refine ro_skip rfl rfl ?_
      refine ro_skip rfl rfl ?_
      refine rs rfl rfl (ok_pickb (t := true) (d := true) rfl rfl rfl) ?_
      refine rs rfl rfl (ok_moveb (c := true) (.inr rfl) rfl) ?_
      refine ro_nil ?_
      refine keepK hK8 [1, 3, 24] (by dsimp) (by dsimp) ?_
      refine T.cond_true rfl ?_
      refine T.seq fun K10 hK10 => ?_
      refine T.region ?_
      refine rs rfl rfl (ok_move (.inr rfl)) ?_
      refine ro_nil ?_
      refine keepK hK10 [2] (by dsimp) (by dsimp) ?_
      refine T.ret (hQ _ _ _ rfl ?_).1 -- ret 5
      exact by (rw [chk_bad (by unfold okC; omega)]; exact TEnt.fin [] (by decide) (by simp) rfl ⟨rfl, trivial⟩)
     ·(try simp only [dE] at hb)
      refine rs rfl rfl (ok_fieldAddr rfl ti_api_Conf rfl rfl ti_int (by decide) rfl) ?_
      refine rs rfl rfl (ok_load rfl ti_int rfl rfl) ?_
      refine rs rfl rfl (ok_fieldAddr rfl ti_api_Conf rfl rfl ti_int (by decide) rfl) ?_
      refine rs rfl rfl (ok_load rfl ti_int rfl rfl) ?_
      refine rs rfl rfl (ok_rem64 rfl ti_int rfl rfl (by omega) (by omega)) ?_
      refine rs rfl rfl (ok_binOp rfl ti_int rfl) ?_
      refine rs rfl rfl (ok_pick rfl rfl) ?_
      refine rs rfl rfl (ok_move (.inr rfl)) ?_
      refine ro_nil ?_
      refine keepK hK8 [1, 3, 24] (by dsimp) (by dsimp) ?_
      refine T.cond rfl (fun hc => ?_) (fun hc => ?_) -- cond 2
      ·(try simp only [dE] at hc)
       refine T.seq fun K11 hK11 => ?_
       refine T.region ?_
       refine rs rfl rfl (ok_move (.inr rfl)) ?_
       refine ro_nil ?_
       refine keepK hK11 [2] (by dsimp) (by dsimp) ?_
       refine T.ret (hQ _ _ _ rfl ?_).1 -- ret 6
       exact by (rw [chk_bad (by unfold okC; omega)]; exact TEnt.fin [] (by decide) (by simp) rfl ⟨rfl, trivial⟩)
      ·(try simp only [dE] at hc)
       refine T.seq fun K12 hK12 => ?_
       refine T.region ?_
       refine rs rfl rfl (ok_move (.inl rfl)) ?_
       refine rs rfl rfl (ok_fieldAddr rfl ti_api_Conf rfl rfl ti_int (by decide) rfl) ?_
       refine rs rfl rfl (ok_load rfl ti_int rfl rfl) ?_
       refine ro rfl rfl (ok_call rfl rfl rfl ((in_ok c.zon 1 64).plain rfl rfl)) ?_
       refine rs rfl rfl (ok_unOp rfl rfl) ?_
       refine ro_case rfl rfl (OpOk.step (ok_moveb (.inl rfl) rfl)) (fun hb => ?_) (fun hb => ?_)
       ·(try simp only [dE] at hb)
        refine ro_skip rfl rfl ?_
        refine ro_skip rfl rfl ?_
        refine ro_skip rfl rfl ?_
        refine ro_skip rfl rfl ?_
        refine ro_skip rfl rfl ?_
        refine rs rfl rfl (ok_pickb (t := true) (d := true) rfl rfl rfl) ?_
        refine rs rfl rfl (ok_moveb (c := true) (.inl rfl) rfl) ?_
        refine ro_skip rfl rfl ?_
        refine ro_skip rfl rfl ?_
        refine ro_skip rfl rfl ?_
        refine ro_skip rfl rfl ?_
        refine ro_skip rfl rfl ?_
        refine rs rfl rfl (ok_pickb (t := true) (d := true) rfl rfl rfl) ?_
        refine rs rfl rfl (ok_moveb (c := true) (.inl rfl) rfl) ?_
        refine ro_skip rfl rfl ?_
        refine ro_skip rfl rfl ?_
        refine ro_skip rfl rfl ?_
        refine rs rfl rfl (ok_pickb (t := true) (d := true) rfl rfl rfl) ?_
        refine rs rfl rfl (ok_moveb (c := true) (.inr rfl) rfl) ?_
        refine ro_nil ?_
        refine keepK hK12 [1, 3, 45] (by dsimp) (by dsimp) ?_
        refine T.cond_true rfl ?_
        refine T.seq fun K13 hK13 => ?_
        refine T.region ?_
        refine rs rfl rfl (ok_move (.inr rfl)) ?_
        refine ro_nil ?_
        refine keepK hK13 [2] (by dsimp) (by dsimp) ?_
        refine T.ret (hQ _ _ _ rfl ?_).1 -- ret 7
        exact by (rw [chk_bad (by unfold okC; omega)]; exact TEnt.fin [] (by decide) (by simp) rfl ⟨rfl, trivial⟩)
       ·(try simp only [dE] at hb)
        refine rs rfl rfl (ok_move (.inl rfl)) ?_
        refine rs rfl rfl (ok_fieldAddr rfl ti_api_Conf rfl rfl ti_int (by decide) rfl) ?_
        refine rs rfl rfl (ok_load rfl ti_int rfl rfl) ?_
        refine ro rfl rfl (ok_call rfl rfl rfl ((in_ok c.spa 1 64).plain rfl rfl)) ?_
        refine rs rfl rfl (ok_unOp rfl rfl) ?_
        refine rs rfl rfl (ok_pick rfl rfl) ?_
        refine ro_case rfl rfl (OpOk.step (ok_moveb (.inl rfl) rfl)) (fun hb => ?_) (fun hb => ?_)
        ·(try simp only [dE] at hb)
         refine ro_skip rfl rfl ?_
         refine ro_skip rfl rfl ?_
         refine ro_skip rfl rfl ?_
         refine ro_skip rfl rfl ?_
         refine ro_skip rfl rfl ?_
         refine rs rfl rfl (ok_pickb (t := true) (d := true) rfl rfl rfl) ?_
         refine rs rfl rfl (ok_moveb (c := true) (.inl rfl) rfl) ?_
         refine ro_skip rfl rfl ?_
         refine ro_skip rfl rfl ?_
         refine ro_skip rfl rfl ?_
         refine rs rfl rfl (ok_pickb (t := true) (d := true) rfl rfl rfl) ?_
         refine rs rfl rfl (ok_moveb (c := true) (.inr rfl) rfl) ?_
         refine ro_nil ?_
         refine keepK hK12 [1, 3, 45] (by dsimp) (by dsimp) ?_
         refine T.cond_true rfl ?_
         refine T.seq fun K14 hK14 => ?_
         refine T.region ?_
         refine rs rfl rfl (ok_move (.inr rfl)) ?_
         refine ro_nil ?_
         refine keepK hK14 [2] (by dsimp) (by dsimp) ?_
         refine T.ret (hQ _ _ _ rfl ?_).1 -- ret 8
         exact by (rw [chk_bad (by unfold okC; omega)]; exact TEnt.fin [] (by decide) (by simp) rfl ⟨rfl, trivial⟩)
        ·(try simp only [dE] at hb)
         refine rs rfl rfl (ok_move (.inl rfl)) ?_
         refine rs rfl rfl (ok_fieldAddr rfl ti_api_Conf rfl rfl ti_int (by decide) rfl) ?_
         refine rs rfl rfl (ok_load rfl ti_int rfl rfl) ?_
         refine ro rfl rfl (ok_call rfl rfl rfl ((in_ok c.met 3 64).plain rfl rfl)) ?_
         refine rs rfl rfl (ok_unOp rfl rfl) ?_
         refine rs rfl rfl (ok_pick rfl rfl) ?_
         refine ro_case rfl rfl (OpOk.step (ok_moveb (.inl rfl) rfl)) (fun hb => ?_) (fun hb => ?_)
         ·(try simp only [dE] at hb)
          refine ro_skip rfl rfl ?_
          refine ro_skip rfl rfl ?_
          refine ro_skip rfl rfl ?_
          refine rs rfl rfl (ok_pickb (t := true) (d := true) rfl rfl rfl) ?_
          refine rs rfl rfl (ok_moveb (c := true) (.inr rfl) rfl) ?_
          refine ro_nil ?_
          refine keepK hK12 [1, 3, 45] (by dsimp) (by dsimp) ?_
          refine T.cond_true rfl ?_
          refine T.seq fun K15 hK15 => ?_
          refine T.region ?_
          refine rs rfl rfl (ok_move (.inr rfl)) ?_
          refine ro_nil ?_
          refine keepK hK15 [2] (by dsimp) (by dsimp) ?_
          refine T.ret (hQ _ _ _ rfl ?_).1 -- ret 9
          exact by (rw [chk_bad (by unfold okC; omega)]; exact TEnt.fin [] (by decide) (by simp) rfl ⟨rfl, trivial⟩)
         ·(try simp only [dE] at hb)
          refine rs rfl rfl (ok_load rfl ti_api_Conf rfl rfl) ?_
          refine ro rfl rfl (ok_call rfl rfl rfl ((all_ok c).plain rfl rfl)) ?_
          refine rs rfl rfl (ok_binOp rfl ti_int rfl) ?_
          refine rs rfl rfl (ok_pick rfl rfl) ?_
          refine rs rfl rfl (ok_move (.inr rfl)) ?_
          refine ro_nil ?_
          refine keepK hK12 [1, 3, 45] (by dsimp) (by dsimp) ?_
          refine T.cond rfl (fun hc => ?_) (fun hc => ?_) -- cond 3
          ·(try simp only [dE] at hc)
           have hno : ¬ okC c := by
             intro h
             have h' := okC_sane h
             unfold allC at hc
             rw [if_pos h'] at hc
             unfold okC at h
             omega
           refine T.seq fun K16 hK16 => ?_
           refine T.region ?_
           refine rs rfl rfl (ok_move (.inr rfl)) ?_
           refine ro_nil ?_
           refine keepK hK16 [2] (by dsimp) (by dsimp) ?_
           refine T.ret (hQ _ _ _ rfl ?_).1 -- ret 10
           exact by (rw [chk_bad (by assumption)]; exact TEnt.fin [] (by decide) (by simp) rfl ⟨rfl, trivial⟩)
          ·(try simp only [dE] at hc)
           have hall : saneC c = true → c.met + c.zon + c.spa ≤ 64 := by
             intro h
             unfold allC at hc
             rw [if_pos h] at hc
             omega
           refine T.seq fun K17 hK17 => ?_
           refine T.region ?_
           refine rs rfl rfl (ok_move (.inl rfl)) ?_
           refine rs rfl rfl (ok_fieldAddr rfl ti_api_Conf rfl rfl ti_int (by decide) rfl) ?_
           refine rs rfl rfl (ok_load rfl ti_int rfl rfl) ?_
           refine rs rfl rfl (ok_fieldAddr rfl ti_api_Conf rfl rfl ti_int (by decide) rfl) ?_
           refine rs rfl rfl (ok_load rfl ti_int rfl rfl) ?_
           refine ro rfl rfl (ok_call rfl rfl rfl ((in_ok c.act 1 c.zon).plain rfl rfl)) ?_
           refine rs rfl rfl (ok_unOp rfl rfl) ?_
           refine ro_case rfl rfl (OpOk.step (ok_moveb (.inl rfl) rfl)) (fun hb => ?_) (fun hb => ?_)
           ·(try simp only [dE] at hb)
            refine ro_skip rfl rfl ?_
            refine ro_skip rfl rfl ?_
            refine ro_skip rfl rfl ?_
            refine ro_skip rfl rfl ?_
            refine ro_skip rfl rfl ?_
            refine ro_skip rfl rfl ?_
            refine ro_skip rfl rfl ?_
            refine rs rfl rfl (ok_pickb (t := true) (d := true) rfl rfl rfl) ?_
            refine rs rfl rfl (ok_moveb (c := true) (.inl rfl) rfl) ?_
            refine ro_skip rfl rfl ?_
            refine ro_skip rfl rfl ?_
            refine ro_skip rfl rfl ?_
            refine ro_skip rfl rfl ?_
            refine ro_skip rfl rfl ?_
            refine ro_skip rfl rfl ?_
            refine ro_skip rfl rfl ?_
            refine ro_skip rfl rfl ?_
            refine ro_skip rfl rfl ?_
            refine ro_skip rfl rfl ?_
            refine ro_skip rfl rfl ?_
            refine ro_skip rfl rfl ?_
            refine ro_skip rfl rfl ?_
            refine rs rfl rfl (ok_pickb (t := true) (d := true) rfl rfl rfl) ?_
            refine rs rfl rfl (ok_moveb (c := true) (.inr rfl) rfl) ?_
            refine ro_nil ?_
            refine keepK hK17 [1, 70] (by dsimp) (by dsimp) ?_
            refine T.cond_true rfl ?_
            refine T.seq fun K18 hK18 => ?_
            refine T.region ?_
            refine rs rfl rfl (ok_move (.inr rfl)) ?_
            refine ro_nil ?_
            refine keepK hK18 [2] (by dsimp) (by dsimp) ?_
            refine T.ret (hQ _ _ _ rfl ?_).1 -- ret 11
            exact by (rw [chk_bad (by unfold okC; omega)]; exact TEnt.fin [] (by decide) (by simp) rfl ⟨rfl, trivial⟩)
           ·(try simp only [dE] at hb)
            refine rs rfl rfl (ok_move (.inl rfl)) ?_
            refine rs rfl rfl (ok_fieldAddr rfl ti_api_Conf rfl rfl ti_int (by decide) rfl) ?_
            refine rs rfl rfl (ok_load rfl ti_int rfl rfl) ?_
            refine rs rfl rfl (ok_fieldAddr rfl ti_api_Conf rfl rfl ti_int (by decide) rfl) ?_
            refine rs rfl rfl (ok_load rfl ti_int rfl rfl) ?_
            refine ro rfl rfl (ok_call rfl rfl rfl ((in_ok c.opn 1 c.act).plain rfl rfl)) ?_
            refine rs rfl rfl (ok_unOp rfl rfl) ?_
            refine rs rfl rfl (ok_pick rfl rfl) ?_
            refine ro_case rfl rfl (OpOk.step (ok_moveb (.inl rfl) rfl)) (fun hb => ?_) (fun hb => ?_)
            ·(try simp only [dE] at hb)
             refine ro_skip rfl rfl ?_
             refine ro_skip rfl rfl ?_
             refine ro_skip rfl rfl ?_
             refine ro_skip rfl rfl ?_
             refine ro_skip rfl rfl ?_
             refine ro_skip rfl rfl ?_
             refine ro_skip rfl rfl ?_
             refine ro_skip rfl rfl ?_
             refine ro_skip rfl rfl ?_
             refine ro_skip rfl rfl ?_
             refine ro_skip rfl rfl ?_
             refine ro_skip rfl rfl ?_
             refine ro_skip rfl rfl ?_
             refine rs rfl rfl (ok_pickb (t := true) (d := true) rfl rfl rfl) ?_
             refine rs rfl rfl (ok_moveb (c := true) (.inr rfl) rfl) ?_
             refine ro_nil ?_
             refine keepK hK17 [1, 70] (by dsimp) (by dsimp) ?_
             refine T.cond_true rfl ?_
             refine T.seq fun K19 hK19 => ?_
             refine T.region ?_
             refine rs rfl rfl (ok_move (.inr rfl)) ?_
             refine ro_nil ?_
             refine keepK hK19 [2] (by dsimp) (by dsimp) ?_
             refine T.ret (hQ _ _ _ rfl ?_).1 -- ret 12
             exact by (rw [chk_bad (by unfold okC; omega)]; exact TEnt.fin [] (by decide) (by simp) rfl ⟨rfl, trivial⟩)
            ·(try simp only [dE] at hb)
             refine rs rfl rfl (ok_move (.inl rfl)) ?_
             refine rs rfl rfl (ok_fieldAddr rfl ti_api_Conf rfl rfl ti_int (by decide) rfl) ?_
             refine rs rfl rfl (ok_load rfl ti_int rfl rfl) ?_
             refine rs rfl rfl (ok_fieldAddr rfl ti_api_Conf rfl rfl ti_int (by decide) rfl) ?_
             refine rs rfl rfl (ok_load rfl ti_int rfl rfl) ?_
             refine rs rfl rfl (ok_fieldAddr rfl ti_api_Conf rfl rfl ti_int (by decide) rfl) ?_
             refine rs rfl rfl (ok_load rfl ti_int rfl rfl) ?_
             refine rs rfl rfl (ok_add64 rfl ti_int rfl rfl (by omega) (by omega)) ?_
             refine rs rfl rfl (ok_fieldAddr rfl ti_api_Conf rfl rfl ti_int (by decide) rfl) ?_
             refine rs rfl rfl (ok_load rfl ti_int rfl rfl) ?_
             refine rs rfl rfl (ok_add64 rfl ti_int rfl rfl (by omega) (by omega)) ?_
             refine ro rfl rfl (ok_call rfl rfl rfl ((in_ok c.lim (c.act + c.spa + c.met) 64).plain rfl rfl)) ?_
             refine rs rfl rfl (ok_unOp rfl rfl) ?_
             refine rs rfl rfl (ok_pick rfl rfl) ?_
             refine rs rfl rfl (ok_move (.inr rfl)) ?_
             refine ro_nil ?_
             refine keepK hK17 [1, 70] (by dsimp) (by dsimp) ?_
             refine T.cond rfl (fun hc => ?_) (fun hc => ?_) -- cond 4
             ·(try simp only [dE] at hc)
              refine T.seq fun K20 hK20 => ?_
              refine T.region ?_
              refine rs rfl rfl (ok_move (.inr rfl)) ?_
              refine ro_nil ?_
              refine keepK hK20 [2] (by dsimp) (by dsimp) ?_
              refine T.ret (hQ _ _ _ rfl ?_).1 -- ret 13
              exact by (rw [chk_bad (by unfold okC; omega)]; exact TEnt.fin [] (by decide) (by simp) rfl ⟨rfl, trivial⟩)
             ·(try simp only [dE] at hc)
              have hs : saneC c = true := by rw [saneC_iff]; omega
              have hall' := hall hs
              have hyes : okC c := by unfold okC; omega
              refine T.seq fun K21 hK21 => ?_
              refine T.drawH mixed [] ?_
              refine any_take 0 rfl (by first | rfl | decide +kernel) rfl (HeldL.refl _) (fun H' hH => OpOk.step (ok_load rfl ti_api_Conf (locA_held hH rfl) rfl)) ?_
              refine any_take 2 rfl (by first | rfl | decide +kernel) rfl (HeldL.refl _) (fun H' hH => OpOk.step (ok_fieldAddr rfl ti_api_Conf rfl rfl ti_int (by decide) rfl)) ?_
              refine any_take 3 rfl (by first | rfl | decide +kernel) rfl (HeldL.refl _) (fun H' hH => OpOk.step (ok_load rfl ti_int (locA_held hH rfl) rfl)) ?_
              refine any_one 1 rfl (by first | rfl | decide +kernel) rfl rfl (ok_call rfl rfl rfl ((room_ok c).plain rfl rfl)) (.inr (by first | (simp [HeldL]; done) | (simp only [dH]; (repeat' first | trivial | rfl | constructor)))) ?_
              refine any_take 4 rfl (by first | rfl | decide +kernel) rfl (by first | exact HeldL.refl _ | exact HeldL.append _ _ | simp [HeldL]) (fun H' hH => OpOk.step (ok_binOp rfl ti_int rfl)) ?_
              refine any_take 5 rfl (by first | rfl | decide +kernel) rfl (by first | exact HeldL.refl _ | exact HeldL.append _ _ | simp [HeldL]) (fun H' hH => OpOk.step (ok_move (.inr rfl))) ?_
              refine any_done rfl ?_
              refine keepK hK21 [102] (by dsimp) (by dsimp) ?_
              refine T.cond rfl (fun hc => ?_) (fun hc => ?_) -- cond 5
              ·(try simp only [dE] at hc)
               refine T.seq fun K22 hK22 => ?_
               refine T.region ?_
               refine rs rfl rfl (ok_move (.inr rfl)) ?_
               refine ro_nil ?_
               refine keepK hK22 [2] (by dsimp) (by dsimp) ?_
               refine T.ret (hQ _ _ _ rfl ?_).1 -- ret 14
               exact by (rw [chk_room (by assumption) (by assumption)]; exact TEnt.fin [] (by decide) (by simp) rfl ⟨rfl, trivial⟩)
              ·(try simp only [dE] at hc)
               refine T.skip ?_
               refine keepK hK3 [] (by dsimp) (by dsimp) ?_
               refine T.seq fun K23 hK23 => ?_
               refine T.region ?_
               refine rs rfl rfl (ok_move (.inr rfl)) ?_
               refine ro_nil ?_
               refine keepK hK23 [2] (by dsimp) (by dsimp) ?_
               refine T.ret (hQ _ _ _ rfl ?_).1 -- ret 15
               exact by (rw [chk_ok (by assumption) (by assumption)]; exact TEnt.fin [] (by decide) (by simp) rfl ⟨rfl, trivial⟩)
theorem list_new (c : Cf) : CSpec Tryz.prog 87 [] [.agg (CC c)] [some ⟨1, true, ints .i64 (c.l.drop 1)⟩] (.sl 0 0 10) := by
 refine CSpec.body Tryz.func87 rfl rfl rfl rfl rfl fun Q hQ => ?_
 refine T.seq fun K1 hK1 => ?_
 refine T.region ?_
 refine rs rfl rfl (ok_box (n := 11) rfl rfl (by decide)) ?_
 refine rs rfl rfl (ok_move (.inr rfl)) ?_
 refine ro_nil ?_
 refine keepK hK1 [1] (by dsimp) (by dsimp) ?_
 refine T.seq fun K2 hK2 => ?_
 refine T.region ?_
 refine rs rfl rfl (ok_fieldAddr rfl ti_api_Conf rfl rfl ti_int (by decide) rfl) ?_
 refine rs rfl rfl (ok_load rfl ti_int rfl rfl) ?_
 refine rs rfl rfl (ok_fieldAddr rfl ti_api_Conf rfl rfl ti_int (by decide) rfl) ?_
 refine rs rfl rfl (ok_load rfl ti_int rfl rfl) ?_
 refine rs rfl rfl (ok_fieldAddr rfl ti_api_Conf rfl rfl ti_int (by decide) rfl) ?_
 refine rs rfl rfl (ok_load rfl ti_int rfl rfl) ?_
 refine rs rfl rfl (ok_fieldAddr rfl ti_api_Conf rfl rfl ti_int (by decide) rfl) ?_
 refine rs rfl rfl (ok_load rfl ti_int rfl rfl) ?_
 refine rs rfl rfl (ok_fieldAddr rfl ti_api_Conf rfl rfl ti_int (by decide) rfl) ?_
 refine rs rfl rfl (ok_load rfl ti_int rfl rfl) ?_
 refine rs rfl rfl (ok_fieldAddr rfl ti_api_Conf rfl rfl ti_int (by decide) rfl) ?_
 refine rs rfl rfl (ok_load rfl ti_int rfl rfl) ?_
 refine rs rfl rfl (ok_fieldAddr rfl ti_api_Conf rfl rfl ti_int (by decide) rfl) ?_
 refine rs rfl rfl (ok_load rfl ti_int rfl rfl) ?_
 refine rs rfl rfl (ok_fieldAddr rfl ti_api_Conf rfl rfl ti_int (by decide) rfl) ?_
 refine rs rfl rfl (ok_load rfl ti_int rfl rfl) ?_
 refine rs rfl rfl (ok_fieldAddr rfl ti_api_Conf rfl rfl ti_int (by decide) rfl) ?_
 refine rs rfl rfl (ok_load rfl ti_int rfl rfl) ?_
 refine rs rfl rfl (ok_fieldAddr rfl ti_api_Conf rfl rfl ti_int (by decide) rfl) ?_
 refine rs rfl rfl (ok_load rfl ti_int rfl rfl) ?_
 refine rs rfl rfl (ok_buildSlice (n := 10) (ps := #[(0, .tmp 4), (1, .tmp 6), (2, .tmp 8), (3, .tmp 10), (4, .tmp 12), (5, .tmp 14), (6, .tmp 16), (7, .tmp 18), (8, .tmp 20), (9, .tmp 22)]) rfl ti_Lint rfl ti_int (by decide) rfl rfl (by decide) rfl rfl rfl) ?_
 refine rs rfl rfl (ok_move (.inr rfl)) ?_
 refine ro_nil ?_
 refine keepK hK2 [2] (by dsimp) (by dsimp) ?_
 refine T.ret (hQ _ _ _ rfl ?_).1 -- ret 1
 exact TEnt.fin [1] (by decide) (by simp) rfl ⟨rfl, trivial⟩
theorem list_frz (c : Cf) : CSpec Tryz.prog 87 [] [.agg (CC c)] [] (.fz 1 (ints .i64 (c.l.drop 1))) := (list_new c).frz rfl (renL_ints _ _ _)
theorem rsane_ok (c : Cf) : CSpec Tryz.prog 70 [] [.agg (CC c)] [] (.b (saneC c)) := by
 obtain ⟨L, hL⟩ : ∃ L, c.l.drop 1 = L := ⟨_, rfl⟩
 have hLl : L.length = 10 := by rw [← hL]; rfl
 have hS : saneC c = L.all ok20 := by rw [← hL]; rfl
 rw [hS]
 refine CSpec.body Tryz.func70 rfl rfl rfl rfl rfl fun Q hQ => ?_
 refine T.seq fun K1 hK1 => ?_
 refine T.region ?_
 refine rs rfl rfl (ok_box (n := 11) rfl rfl (by decide)) ?_
 refine rs rfl rfl (ok_moveb (c := false) (.inr rfl) rfl) ?_
 refine ro_nil ?_
 refine keepK hK1 [1] (by dsimp) (by dsimp) ?_
 refine T.seq fun K2 hK2 => ?_
 refine T.region ?_
 refine rs rfl rfl (ok_load rfl ti_api_Conf rfl rfl) ?_
 refine ro rfl rfl (ok_call rfl rfl rfl (((list_frz c).plain rfl (by simp [AV.ren, renL_ints])).eq (x' := .fz 1 (ints .i64 L)) (by rw [hL]) rfl)) ?_
 refine rs rfl rfl (ok_move (.inr rfl)) ?_
 refine ro_nil ?_
 refine keepK hK2 [3] (by dsimp) (by dsimp) ?_
 refine T.seq fun K3 hK3 => ?_
 refine T.seq fun K4 hK4 => ?_
 refine T.region ?_
 refine rs rfl rfl (ok_move (.inr rfl)) ?_
 refine ro_nil ?_
 refine keepK hK4 [3, 4] (by dsimp) (by dsimp) ?_
 refine T.block ?_
 refine T.loopI (ι := Nat) (fun i => i ≤ 10 ∧ (L.take i).all ok20 = true) (fun i => 10 - i) (fun i => ([(3, .fz 1 (ints .i64 L)), (4, .int i)], [])) 0 ⟨Nat.zero_le _, rfl⟩ (TEnt.fin [] (by decide) (by simp) rfl ⟨by simp [AV.ren, renL_ints], rfl, trivial⟩) (fun i hi => ?_) -- loop 1
 obtain ⟨hi, hall⟩ := hi
 refine T.seq fun K5 hK5 => ?_
 refine T.seq fun K6 hK6 => ?_
 refine T.region ?_
 refine rs rfl rfl (ok_move (.inl rfl)) ?_
 refine rs rfl rfl (ok_move (.inl rfl)) ?_
 refine rs rfl rfl (ok_len' rfl rfl ti_Lint rfl (by first | exact ints_length _ _ | exact rowsA_length _ _ | exact Cms_len _ | exact mapLen _ | rfl)) ?_
 refine rs rfl rfl (ok_binOp rfl ti_int rfl) ?_
 refine ro_nil ?_
 refine keepK hK6 [3, 4, 10] (by dsimp) (by dsimp) ?_
 refine T.cond rfl (fun hc => ?_) (fun hc => ?_) -- cond 1
 ·(try simp only [dE] at hc)
  have hi10 : i < 10 := by omega
  obtain ⟨x, hx⟩ : ∃ x, L[i]? = some x := ⟨_, List.getElem?_eq_getElem (by omega)⟩
  have htk : L.take (i + 1) = L.take i ++ [x] := take_succ_get hx
  have hbad : ok20 x = false → L.all ok20 = false := by
    intro h
    have hm : x ∈ L := List.mem_of_getElem? hx
    rw [Bool.eq_false_iff]
    intro h2
    rw [List.all_eq_true.1 h2 x hm] at h
    cases h
  refine T.skip ?_
  refine keepK hK5 [3, 4] (by dsimp) (by dsimp) ?_
  refine T.seq fun K7 hK7 => ?_
  refine T.block ?_
  refine T.seq fun K8 hK8 => ?_
  refine T.region ?_
  refine rs rfl rfl (ok_move (.inl rfl)) ?_
  refine rs rfl rfl (ok_move (.inl rfl)) ?_
  refine rs rfl rfl (by exact ok_index_ints rfl ti_Lint rfl ti_int rfl rfl rfl (by omega) (by simpa using hx)) ?_
  refine rs rfl rfl (ok_load rfl ti_int rfl rfl) ?_
  refine rs rfl rfl (ok_binOp rfl ti_int rfl) ?_
  refine ro_case rfl rfl (OpOk.step (ok_moveb (.inl rfl) rfl)) (fun hb => ?_) (fun hb => ?_)
  ·(try simp only [dE] at hb)
   refine ro_skip rfl rfl ?_
   refine ro_skip rfl rfl ?_
   refine ro_skip rfl rfl ?_
   refine ro_skip rfl rfl ?_
   refine ro_skip rfl rfl ?_
   refine rs rfl rfl (ok_pickb (t := true) (d := true) rfl rfl rfl) ?_
   refine ro_nil ?_
   refine keepK hK8 [3, 4, 24] (by dsimp) (by dsimp) ?_
   refine T.cond_true rfl ?_
   refine T.seq fun K9 hK9 => ?_
   refine T.region ?_
   refine rs rfl rfl (ok_moveb (c := false) (.inr rfl) rfl) ?_
   refine ro_nil ?_
   refine keepK hK9 [2] (by dsimp) (by dsimp) ?_
   refine T.ret (hQ _ _ _ rfl ?_).1 -- ret 1
   rw [hbad (by simp [ok20]; omega)]; exact TEnt.toH rfl ⟨rfl, trivial⟩
  ·(try simp only [dE] at hb)
   refine rs rfl rfl (ok_move (.inl rfl)) ?_
   refine rs rfl rfl (ok_move (.inl rfl)) ?_
   refine rs rfl rfl (by exact ok_index_ints rfl ti_Lint rfl ti_int rfl rfl rfl (by omega) (by simpa using hx)) ?_
   refine rs rfl rfl (ok_load rfl ti_int rfl rfl) ?_
   refine rs rfl rfl (ok_binOp rfl ti_int rfl) ?_
   refine rs rfl rfl (ok_pick rfl rfl) ?_
   refine ro_nil ?_
   refine keepK hK8 [3, 4, 24] (by dsimp) (by dsimp) ?_
   refine T.cond rfl (fun hc => ?_) (fun hc => ?_) -- cond 2
   ·(try simp only [dE] at hc)
    refine T.seq fun K10 hK10 => ?_
    refine T.region ?_
    refine rs rfl rfl (ok_moveb (c := false) (.inr rfl) rfl) ?_
    refine ro_nil ?_
    refine keepK hK10 [2] (by dsimp) (by dsimp) ?_
    refine T.ret (hQ _ _ _ rfl ?_).1 -- ret 2
    rw [hbad (by simp [ok20]; omega)]; exact TEnt.toH rfl ⟨rfl, trivial⟩
   ·(try simp only [dE] at hc)
    refine T.skip ?_
    refine keepK hK7 [3, 4] (by dsimp) (by dsimp) ?_
    refine T.region ?_
    refine rs rfl rfl (ok_move (.inl rfl)) ?_
    refine rs rfl rfl (ok_add64 rfl ti_int rfl rfl (by omega) (by omega)) ?_
    refine rs rfl rfl (ok_move (.inr rfl)) ?_
    refine ro_nil ?_
    exact ⟨i + 1, ⟨by omega, by rw [htk, List.all_append, hall]; simp [ok20]; omega⟩, by omega, TEnt.toH rfl ⟨rfl, rfl, trivial⟩⟩
 ·(try simp only [dE] at hc)
  have hi10 : i = 10 := by omega
  subst hi10
  rw [List.take_of_length_le (by omega)] at hall
  rw [hall] at hQ
  refine T.exit ?_
  refine keepK hK3 [] (by dsimp) (by dsimp) ?_
  refine T.seq fun K11 hK11 => ?_
  refine T.region ?_
  refine rs rfl rfl (ok_moveb (c := true) (.inr rfl) rfl) ?_
  refine ro_nil ?_
  refine keepK hK11 [2] (by dsimp) (by dsimp) ?_
  refine T.ret (hQ _ _ _ rfl ?_).1 -- ret 3
  exact TEnt.toH rfl ⟨rfl, trivial⟩
def numsC (c : Cf) : List Int := [dataC c, rowC c, stripesC c, sizeC c, slotsC c, allC c, roomC c]
theorem nums_none (c : Cf) (hs : saneC c = false) : CSpec Tryz.prog 71 [] [.agg (CC c)] [] (.agg (ints .i64 (numsC c))) := by
 refine CSpec.body Tryz.func71 rfl rfl rfl rfl rfl fun Q hQ => ?_
 refine T.seq fun K1 hK1 => ?_
 refine T.region ?_
 refine rs rfl rfl (ok_box (n := 11) rfl rfl (by decide)) ?_
 refine rs rfl rfl (ok_alloc rfl ti_A7int rfl (by decide)) ?_
 refine ro_nil ?_
 refine keepK hK1 [1, 2] (by dsimp) (by dsimp) ?_
 refine T.seq fun K2 hK2 => ?_
 refine T.seq fun K3 hK3 => ?_
 refine T.region ?_
 refine rs rfl rfl (ok_load rfl ti_api_Conf rfl rfl) ?_
 refine ro rfl rfl (ok_call rfl rfl rfl (((rsane_ok c).plain rfl rfl).eq (x' := .b false) (by rw [hs]) rfl)) ?_
 refine rs rfl rfl (OpOk.bool (d := true) (ok_unOp rfl rfl) (rfl)) ?_
 refine ro_nil ?_
 refine keepK hK3 [1, 2, 8] (by dsimp) (by dsimp) ?_
 refine T.cond_true rfl ?_
 refine T.seq fun K4 hK4 => ?_
 refine T.region ?_
 refine rs rfl rfl (ok_build rfl ti_A7int rfl) ?_
 refine rs rfl rfl (ok_store rfl ti_A7int (by decide) rfl rfl rfl rfl rfl (by first | exact Nat.le_of_ble_eq_true rfl | simp) (by first | exact .inl ⟨rfl, rfl⟩ | exact .inr rfl)) ?_
 refine ro_nil ?_
 refine keepK hK4 [2] (by dsimp) (by dsimp) ?_
 refine T.ret (hQ _ _ _ rfl ?_).1 -- ret 1
 exact (by have e : numsC c = [0, 0, 0, 0, 0, 0, 0] := (by simp [numsC, dataC, rowC, stripesC, sizeC, slotsC, allC, roomC, hs]); rw [e]; exact TEnt.fin [] (by decide) (by simp) rfl ⟨rfl, trivial⟩)
set_option maxHeartbeats 2000000 in
theorem nums_sane (c : Cf) (hs : saneC c = true) : CSpec Tryz.prog 71 [] [.agg (CC c)] [] (.agg (ints .i64 (numsC c))) := by
 have hb := head_bd hs
 have hsz := size_bd c
 have e : numsC c = [c.mem - 1, (c.mem - 1) * c.unit, c.cap / c.unit, c.cap / c.unit * (c.mem - 1) * c.unit, c.zon + c.spa, c.zon + c.spa + c.met, (if headC c % c.blk > 0 then headC c / c.blk + 1 else headC c / c.blk) + 2] := by
   have hs' := hs
   rw [saneC_iff] at hs'
   rw [← ceil_eq _ _ (by omega)]
   have e1 : c.met + c.zon + c.spa = c.zon + c.spa + c.met := by omega
   simp only [numsC, dataC, rowC, stripesC, sizeC, slotsC, allC, roomC, hs, if_true, Int.mul_assoc, e1]
 rw [e]
 unfold sizeC rowC stripesC at hsz
 rw [if_pos hs, if_pos hs, ← Int.mul_assoc] at hsz
 refine CSpec.body Tryz.func71 rfl rfl rfl rfl rfl fun Q hQ => ?_
 refine T.seq fun K1 hK1 => ?_
 refine T.region ?_
 refine rs rfl rfl (ok_box (n := 11) rfl rfl (by decide)) ?_
 refine rs rfl rfl (ok_alloc rfl ti_A7int rfl (by decide)) ?_
 refine ro_nil ?_
 refine keepK hK1 [1, 2] (by dsimp) (by dsimp) ?_
 refine T.seq fun K2 hK2 => ?_
 refine T.seq fun K3 hK3 => ?_
 refine T.region ?_
 refine rs rfl rfl (ok_load rfl ti_api_Conf rfl rfl) ?_
 refine ro rfl rfl (ok_call rfl rfl rfl (((rsane_ok c).plain rfl rfl).eq (x' := .b true) (by rw [hs]) rfl)) ?_
 refine rs rfl rfl (OpOk.bool (d := false) (ok_unOp rfl rfl) (rfl)) ?_
 refine ro_nil ?_
 refine keepK hK3 [1, 2, 8] (by dsimp) (by dsimp) ?_
 refine T.cond_false rfl ?_
 refine T.skip ?_
 refine keepK hK2 [1, 2] (by dsimp) (by dsimp) ?_
 refine T.seq fun K4 hK4 => ?_
 rw [saneC_iff] at hs
 have hq := quo_bd (a := headC c) (b := c.blk) (B := 1152922604300000000) (by omega) (by omega) (by omega)
 have hm := mul_bd (a := c.cap / c.unit) (b := c.mem - 1) (A := 1048576) (B := 1048576) hsz.2.2.1 hsz.2.2.2.1 (by omega) (by omega)
 refine T.region ?_
 refine rs rfl rfl (ok_fieldAddr rfl ti_api_Conf rfl rfl ti_int (by decide) rfl) ?_
 refine rs rfl rfl (ok_load rfl ti_int rfl rfl) ?_
 refine rs rfl rfl (ok_sub64 rfl ti_int rfl rfl (by omega) (by omega)) ?_
 refine rs rfl rfl (ok_move (.inr rfl)) ?_
 refine ro_nil ?_
 refine keepK hK4 [1, 2, 3] (by dsimp) (by dsimp) ?_
 refine T.seq fun K5 hK5 => ?_
 refine T.region ?_
 refine rs rfl rfl (ok_fieldAddr rfl ti_api_Conf rfl rfl ti_int (by decide) rfl) ?_
 refine rs rfl rfl (ok_load rfl ti_int rfl rfl) ?_
 refine rs rfl rfl (ok_mul64 rfl ti_int rfl rfl (by omega) (by omega)) ?_
 refine rs rfl rfl (ok_add64 rfl ti_int rfl rfl (by omega) (by omega)) ?_
 refine rs rfl rfl (ok_fieldAddr rfl ti_api_Conf rfl rfl ti_int (by decide) rfl) ?_
 refine rs rfl rfl (ok_load rfl ti_int rfl rfl) ?_
 refine rs rfl rfl (ok_mul64 rfl ti_int rfl rfl (by omega) (by omega)) ?_
 refine rs rfl rfl (ok_add64 rfl ti_int rfl rfl (by omega) (by omega)) ?_
 refine rs rfl rfl (ok_fieldAddr rfl ti_api_Conf rfl rfl ti_int (by decide) rfl) ?_
 refine rs rfl rfl (ok_load rfl ti_int rfl rfl) ?_
 refine rs rfl rfl (ok_add64 rfl ti_int rfl rfl (by omega) (by omega)) ?_
 refine rs rfl rfl (ok_fieldAddr rfl ti_api_Conf rfl rfl ti_int (by decide) rfl) ?_
 refine rs rfl rfl (ok_load rfl ti_int rfl rfl) ?_
 refine rs rfl rfl (ok_mul64 rfl ti_int rfl rfl (by omega) (by omega)) ?_
 refine rs rfl rfl (ok_fieldAddr rfl ti_api_Conf rfl rfl ti_int (by decide) rfl) ?_
 refine rs rfl rfl (ok_load rfl ti_int rfl rfl) ?_
 refine rs rfl rfl (ok_mul64 rfl ti_int rfl rfl (by omega) (by omega)) ?_
 refine rs rfl rfl ((ok_add64 rfl ti_int rfl rfl (by omega) (by omega)).eq (x' := .int (headC c)) rfl rfl) ?_
 refine rs rfl rfl (ok_move (.inr rfl)) ?_
 refine ro_nil ?_
 refine keepK hK5 [1, 2, 3, 4] (by dsimp) (by dsimp) ?_
 refine T.seq fun K6 hK6 => ?_
 refine T.region ?_
 refine rs rfl rfl (ok_move (.inl rfl)) ?_
 refine rs rfl rfl (ok_fieldAddr rfl ti_api_Conf rfl rfl ti_int (by decide) rfl) ?_
 refine rs rfl rfl (ok_load rfl ti_int rfl rfl) ?_
 refine rs rfl rfl (ok_quo64 rfl ti_int rfl rfl (by omega) (by omega) (by omega)) ?_
 refine rs rfl rfl (ok_move (.inr rfl)) ?_
 refine ro_nil ?_
 refine keepK hK6 [1, 2, 3, 4, 5] (by dsimp) (by dsimp) ?_
 refine T.seq fun K7 hK7 => ?_
 refine T.seq fun K8 hK8 => ?_
 refine T.region ?_
 refine rs rfl rfl (ok_move (.inl rfl)) ?_
 refine rs rfl rfl (ok_fieldAddr rfl ti_api_Conf rfl rfl ti_int (by decide) rfl) ?_
 refine rs rfl rfl (ok_load rfl ti_int rfl rfl) ?_
 refine rs rfl rfl (ok_rem64 rfl ti_int rfl rfl (by omega) (by omega)) ?_
 refine rs rfl rfl (ok_binOp rfl ti_int rfl) ?_
 refine ro_nil ?_
 refine keepK hK8 [1, 2, 3, 5, 39] (by dsimp) (by dsimp) ?_
 refine T.cond rfl (fun hc => ?_) (fun hc => ?_) -- cond 1
 ·(try simp only [dE] at hc)
  rw [if_pos hc] at hQ
  refine T.region ?_
  refine rs rfl rfl (ok_move (.inl rfl)) ?_
  refine rs rfl rfl (ok_add64 rfl ti_int rfl rfl (by omega) (by omega)) ?_
  refine rs rfl rfl (ok_move (.inr rfl)) ?_
  refine ro_nil ?_
  refine keepK hK7 [1, 2, 3, 5] (by dsimp) (by dsimp) ?_
  refine T.seq fun K9 hK9 => ?_
  refine T.drawH mixed [36] ?_
  refine any_take 0 rfl (by first | rfl | decide +kernel) rfl (HeldL.refl _) (fun H' hH => OpOk.step (ok_move (.inl rfl))) ?_
  refine any_take 1 rfl (by first | rfl | decide +kernel) rfl (HeldL.refl _) (fun H' hH => OpOk.step (ok_move (.inl rfl))) ?_
  refine any_take 2 rfl (by first | rfl | decide +kernel) rfl (HeldL.refl _) (fun H' hH => OpOk.step (ok_fieldAddr rfl ti_api_Conf rfl rfl ti_int (by decide) rfl)) ?_
  refine any_take 3 rfl (by first | rfl | decide +kernel) rfl (HeldL.refl _) (fun H' hH => OpOk.step (ok_load rfl ti_int (locA_held hH rfl) rfl)) ?_
  refine any_take 4 rfl (by first | rfl | decide +kernel) rfl (HeldL.refl _) (fun H' hH => OpOk.step (ok_mul64 rfl ti_int rfl rfl (by omega) (by omega))) ?_
  refine any_take 5 rfl (by first | rfl | decide +kernel) rfl (HeldL.refl _) (fun H' hH => OpOk.step (ok_fieldAddr rfl ti_api_Conf rfl rfl ti_int (by decide) rfl)) ?_
  refine any_take 6 rfl (by first | rfl | decide +kernel) rfl (HeldL.refl _) (fun H' hH => OpOk.step (ok_load rfl ti_int (locA_held hH rfl) rfl)) ?_
  refine any_take 7 rfl (by first | rfl | decide +kernel) rfl (HeldL.refl _) (fun H' hH => OpOk.step (ok_fieldAddr rfl ti_api_Conf rfl rfl ti_int (by decide) rfl)) ?_
  refine any_take 8 rfl (by first | rfl | decide +kernel) rfl (HeldL.refl _) (fun H' hH => OpOk.step (ok_load rfl ti_int (locA_held hH rfl) rfl)) ?_
  refine any_take 9 rfl (by first | rfl | decide +kernel) rfl (HeldL.refl _) (fun H' hH => OpOk.step (ok_quo64 rfl ti_int rfl rfl (by omega) (by omega) (by omega))) ?_
  refine any_take 10 rfl (by first | rfl | decide +kernel) rfl (HeldL.refl _) (fun H' hH => OpOk.step (ok_fieldAddr rfl ti_api_Conf rfl rfl ti_int (by decide) rfl)) ?_
  refine any_take 11 rfl (by first | rfl | decide +kernel) rfl (HeldL.refl _) (fun H' hH => OpOk.step (ok_load rfl ti_int (locA_held hH rfl) rfl)) ?_
  refine any_take 12 rfl (by first | rfl | decide +kernel) rfl (HeldL.refl _) (fun H' hH => OpOk.step (ok_fieldAddr rfl ti_api_Conf rfl rfl ti_int (by decide) rfl)) ?_
  refine any_take 13 rfl (by first | rfl | decide +kernel) rfl (HeldL.refl _) (fun H' hH => OpOk.step (ok_load rfl ti_int (locA_held hH rfl) rfl)) ?_
  refine any_take 14 rfl (by first | rfl | decide +kernel) rfl (HeldL.refl _) (fun H' hH => OpOk.step (ok_quo64 rfl ti_int rfl rfl (by omega) (by omega) (by omega))) ?_
  refine any_take 15 rfl (by first | rfl | decide +kernel) rfl (HeldL.refl _) (fun H' hH => OpOk.step (ok_move (.inl rfl))) ?_
  refine any_take 16 rfl (by first | rfl | decide +kernel) rfl (HeldL.refl _) (fun H' hH => OpOk.step (ok_mul64 rfl ti_int rfl rfl (by omega) (by omega))) ?_
  refine any_take 17 rfl (by first | rfl | decide +kernel) rfl (HeldL.refl _) (fun H' hH => OpOk.step (ok_fieldAddr rfl ti_api_Conf rfl rfl ti_int (by decide) rfl)) ?_
  refine any_take 18 rfl (by first | rfl | decide +kernel) rfl (HeldL.refl _) (fun H' hH => OpOk.step (ok_load rfl ti_int (locA_held hH rfl) rfl)) ?_
  refine any_take 19 rfl (by first | rfl | decide +kernel) rfl (HeldL.refl _) (fun H' hH => OpOk.step (ok_mul64 rfl ti_int rfl rfl (by omega) (by omega))) ?_
  refine any_take 20 rfl (by first | rfl | decide +kernel) rfl (HeldL.refl _) (fun H' hH => OpOk.step (ok_fieldAddr rfl ti_api_Conf rfl rfl ti_int (by decide) rfl)) ?_
  refine any_take 21 rfl (by first | rfl | decide +kernel) rfl (HeldL.refl _) (fun H' hH => OpOk.step (ok_load rfl ti_int (locA_held hH rfl) rfl)) ?_
  refine any_take 22 rfl (by first | rfl | decide +kernel) rfl (HeldL.refl _) (fun H' hH => OpOk.step (ok_fieldAddr rfl ti_api_Conf rfl rfl ti_int (by decide) rfl)) ?_
  refine any_take 23 rfl (by first | rfl | decide +kernel) rfl (HeldL.refl _) (fun H' hH => OpOk.step (ok_load rfl ti_int (locA_held hH rfl) rfl)) ?_
  refine any_take 24 rfl (by first | rfl | decide +kernel) rfl (HeldL.refl _) (fun H' hH => OpOk.step (ok_add64 rfl ti_int rfl rfl (by omega) (by omega))) ?_
  refine any_take 25 rfl (by first | rfl | decide +kernel) rfl (HeldL.refl _) (fun H' hH => OpOk.step (ok_fieldAddr rfl ti_api_Conf rfl rfl ti_int (by decide) rfl)) ?_
  refine any_take 26 rfl (by first | rfl | decide +kernel) rfl (HeldL.refl _) (fun H' hH => OpOk.step (ok_load rfl ti_int (locA_held hH rfl) rfl)) ?_
  refine any_take 27 rfl (by first | rfl | decide +kernel) rfl (HeldL.refl _) (fun H' hH => OpOk.step (ok_fieldAddr rfl ti_api_Conf rfl rfl ti_int (by decide) rfl)) ?_
  refine any_take 28 rfl (by first | rfl | decide +kernel) rfl (HeldL.refl _) (fun H' hH => OpOk.step (ok_load rfl ti_int (locA_held hH rfl) rfl)) ?_
  refine any_take 29 rfl (by first | rfl | decide +kernel) rfl (HeldL.refl _) (fun H' hH => OpOk.step (ok_add64 rfl ti_int rfl rfl (by omega) (by omega))) ?_
  refine any_take 30 rfl (by first | rfl | decide +kernel) rfl (HeldL.refl _) (fun H' hH => OpOk.step (ok_fieldAddr rfl ti_api_Conf rfl rfl ti_int (by decide) rfl)) ?_
  refine any_take 31 rfl (by first | rfl | decide +kernel) rfl (HeldL.refl _) (fun H' hH => OpOk.step (ok_load rfl ti_int (locA_held hH rfl) rfl)) ?_
  refine any_take 32 rfl (by first | rfl | decide +kernel) rfl (HeldL.refl _) (fun H' hH => OpOk.step (ok_add64 rfl ti_int rfl rfl (by omega) (by omega))) ?_
  refine any_take 33 rfl (by first | rfl | decide +kernel) rfl (HeldL.refl _) (fun H' hH => OpOk.step (ok_move (.inl rfl))) ?_
  refine any_take 34 rfl (by first | rfl | decide +kernel) rfl (HeldL.refl _) (fun H' hH => OpOk.step (ok_add64 rfl ti_int rfl rfl (by omega) (by omega))) ?_
  refine any_take 35 rfl (by first | rfl | decide +kernel) rfl (HeldL.refl _) (fun H' hH => OpOk.step (ok_build_flat 7 rfl ti_A7int rfl rfl rfl rfl rfl)) ?_
  refine any_one 36 rfl (by first | rfl | decide +kernel) rfl rfl (OpOk.step (ok_store rfl ti_A7int (by decide) rfl rfl rfl rfl rfl (by first | exact Nat.le_of_ble_eq_true rfl | simp) (by first | exact .inl ⟨rfl, rfl⟩ | exact .inr rfl))) (.inl (by simp)) ?_
  refine any_done rfl ?_
  refine keepK hK9 [2] (by dsimp) (by dsimp) ?_
  refine T.ret (hQ _ _ _ rfl ?_).1
  exact TEnt.fin [] (by decide) (by simp) rfl ⟨rfl, trivial⟩ -- ?? ret 1
 ·(try simp only [dE] at hc)
  rw [if_neg hc] at hQ
  refine T.skip ?_
  refine keepK hK7 [1, 2, 3, 5] (by dsimp) (by dsimp) ?_
  refine T.seq fun K10 hK10 => ?_
  refine T.drawH mixed [36] ?_
  refine any_take 0 rfl (by first | rfl | decide +kernel) rfl (HeldL.refl _) (fun H' hH => OpOk.step (ok_move (.inl rfl))) ?_
  refine any_take 1 rfl (by first | rfl | decide +kernel) rfl (HeldL.refl _) (fun H' hH => OpOk.step (ok_move (.inl rfl))) ?_
  refine any_take 2 rfl (by first | rfl | decide +kernel) rfl (HeldL.refl _) (fun H' hH => OpOk.step (ok_fieldAddr rfl ti_api_Conf rfl rfl ti_int (by decide) rfl)) ?_
  refine any_take 3 rfl (by first | rfl | decide +kernel) rfl (HeldL.refl _) (fun H' hH => OpOk.step (ok_load rfl ti_int (locA_held hH rfl) rfl)) ?_
  refine any_take 4 rfl (by first | rfl | decide +kernel) rfl (HeldL.refl _) (fun H' hH => OpOk.step (ok_mul64 rfl ti_int rfl rfl (by omega) (by omega))) ?_
  refine any_take 5 rfl (by first | rfl | decide +kernel) rfl (HeldL.refl _) (fun H' hH => OpOk.step (ok_fieldAddr rfl ti_api_Conf rfl rfl ti_int (by decide) rfl)) ?_
  refine any_take 6 rfl (by first | rfl | decide +kernel) rfl (HeldL.refl _) (fun H' hH => OpOk.step (ok_load rfl ti_int (locA_held hH rfl) rfl)) ?_
  refine any_take 7 rfl (by first | rfl | decide +kernel) rfl (HeldL.refl _) (fun H' hH => OpOk.step (ok_fieldAddr rfl ti_api_Conf rfl rfl ti_int (by decide) rfl)) ?_
  refine any_take 8 rfl (by first | rfl | decide +kernel) rfl (HeldL.refl _) (fun H' hH => OpOk.step (ok_load rfl ti_int (locA_held hH rfl) rfl)) ?_
  refine any_take 9 rfl (by first | rfl | decide +kernel) rfl (HeldL.refl _) (fun H' hH => OpOk.step (ok_quo64 rfl ti_int rfl rfl (by omega) (by omega) (by omega))) ?_
  refine any_take 10 rfl (by first | rfl | decide +kernel) rfl (HeldL.refl _) (fun H' hH => OpOk.step (ok_fieldAddr rfl ti_api_Conf rfl rfl ti_int (by decide) rfl)) ?_
  refine any_take 11 rfl (by first | rfl | decide +kernel) rfl (HeldL.refl _) (fun H' hH => OpOk.step (ok_load rfl ti_int (locA_held hH rfl) rfl)) ?_
  refine any_take 12 rfl (by first | rfl | decide +kernel) rfl (HeldL.refl _) (fun H' hH => OpOk.step (ok_fieldAddr rfl ti_api_Conf rfl rfl ti_int (by decide) rfl)) ?_
  refine any_take 13 rfl (by first | rfl | decide +kernel) rfl (HeldL.refl _) (fun H' hH => OpOk.step (ok_load rfl ti_int (locA_held hH rfl) rfl)) ?_
  refine any_take 14 rfl (by first | rfl | decide +kernel) rfl (HeldL.refl _) (fun H' hH => OpOk.step (ok_quo64 rfl ti_int rfl rfl (by omega) (by omega) (by omega))) ?_
  refine any_take 15 rfl (by first | rfl | decide +kernel) rfl (HeldL.refl _) (fun H' hH => OpOk.step (ok_move (.inl rfl))) ?_
  refine any_take 16 rfl (by first | rfl | decide +kernel) rfl (HeldL.refl _) (fun H' hH => OpOk.step (ok_mul64 rfl ti_int rfl rfl (by omega) (by omega))) ?_
  refine any_take 17 rfl (by first | rfl | decide +kernel) rfl (HeldL.refl _) (fun H' hH => OpOk.step (ok_fieldAddr rfl ti_api_Conf rfl rfl ti_int (by decide) rfl)) ?_
  refine any_take 18 rfl (by first | rfl | decide +kernel) rfl (HeldL.refl _) (fun H' hH => OpOk.step (ok_load rfl ti_int (locA_held hH rfl) rfl)) ?_
  refine any_take 19 rfl (by first | rfl | decide +kernel) rfl (HeldL.refl _) (fun H' hH => OpOk.step (ok_mul64 rfl ti_int rfl rfl (by omega) (by omega))) ?_
  refine any_take 20 rfl (by first | rfl | decide +kernel) rfl (HeldL.refl _) (fun H' hH => OpOk.step (ok_fieldAddr rfl ti_api_Conf rfl rfl ti_int (by decide) rfl)) ?_
  refine any_take 21 rfl (by first | rfl | decide +kernel) rfl (HeldL.refl _) (fun H' hH => OpOk.step (ok_load rfl ti_int (locA_held hH rfl) rfl)) ?_
  refine any_take 22 rfl (by first | rfl | decide +kernel) rfl (HeldL.refl _) (fun H' hH => OpOk.step (ok_fieldAddr rfl ti_api_Conf rfl rfl ti_int (by decide) rfl)) ?_
  refine any_take 23 rfl (by first | rfl | decide +kernel) rfl (HeldL.refl _) (fun H' hH => OpOk.step (ok_load rfl ti_int (locA_held hH rfl) rfl)) ?_
  refine any_take 24 rfl (by first | rfl | decide +kernel) rfl (HeldL.refl _) (fun H' hH => OpOk.step (ok_add64 rfl ti_int rfl rfl (by omega) (by omega))) ?_
  refine any_take 25 rfl (by first | rfl | decide +kernel) rfl (HeldL.refl _) (fun H' hH => OpOk.step (ok_fieldAddr rfl ti_api_Conf rfl rfl ti_int (by decide) rfl)) ?_
  refine any_take 26 rfl (by first | rfl | decide +kernel) rfl (HeldL.refl _) (fun H' hH => OpOk.step (ok_load rfl ti_int (locA_held hH rfl) rfl)) ?_
  refine any_take 27 rfl (by first | rfl | decide +kernel) rfl (HeldL.refl _) (fun H' hH => OpOk.step (ok_fieldAddr rfl ti_api_Conf rfl rfl ti_int (by decide) rfl)) ?_
  refine any_take 28 rfl (by first | rfl | decide +kernel) rfl (HeldL.refl _) (fun H' hH => OpOk.step (ok_load rfl ti_int (locA_held hH rfl) rfl)) ?_
  refine any_take 29 rfl (by first | rfl | decide +kernel) rfl (HeldL.refl _) (fun H' hH => OpOk.step (ok_add64 rfl ti_int rfl rfl (by omega) (by omega))) ?_
  refine any_take 30 rfl (by first | rfl | decide +kernel) rfl (HeldL.refl _) (fun H' hH => OpOk.step (ok_fieldAddr rfl ti_api_Conf rfl rfl ti_int (by decide) rfl)) ?_
  refine any_take 31 rfl (by first | rfl | decide +kernel) rfl (HeldL.refl _) (fun H' hH => OpOk.step (ok_load rfl ti_int (locA_held hH rfl) rfl)) ?_
  refine any_take 32 rfl (by first | rfl | decide +kernel) rfl (HeldL.refl _) (fun H' hH => OpOk.step (ok_add64 rfl ti_int rfl rfl (by omega) (by omega))) ?_
  refine any_take 33 rfl (by first | rfl | decide +kernel) rfl (HeldL.refl _) (fun H' hH => OpOk.step (ok_move (.inl rfl))) ?_
  refine any_take 34 rfl (by first | rfl | decide +kernel) rfl (HeldL.refl _) (fun H' hH => OpOk.step (ok_add64 rfl ti_int rfl rfl (by omega) (by omega))) ?_
  refine any_take 35 rfl (by first | rfl | decide +kernel) rfl (HeldL.refl _) (fun H' hH => OpOk.step (ok_build_flat 7 rfl ti_A7int rfl rfl rfl rfl rfl)) ?_
  refine any_one 36 rfl (by first | rfl | decide +kernel) rfl rfl (OpOk.step (ok_store rfl ti_A7int (by decide) rfl rfl rfl rfl rfl (by first | exact Nat.le_of_ble_eq_true rfl | simp) (by first | exact .inl ⟨rfl, rfl⟩ | exact .inr rfl))) (.inl (by simp)) ?_
  refine any_done rfl ?_
  refine keepK hK10 [2] (by dsimp) (by dsimp) ?_
  refine T.ret (hQ _ _ _ rfl ?_).1
  exact TEnt.fin [] (by decide) (by simp) rfl ⟨rfl, trivial⟩ -- ?? ret 2
theorem nums_ok (c : Cf) : CSpec Tryz.prog 71 [] [.agg (CC c)] [] (.agg (ints .i64 (numsC c))) := by
  cases h : saneC c
  · exact nums_none c h
  · exact nums_sane c h
theorem rsize_ok (c : Cf) : CSpec Tryz.prog 84 [] [.agg (CC c)] [] (.int (sizeC c)) := by
 refine CSpec.body Tryz.func84 rfl rfl rfl rfl rfl fun Q hQ => ?_
 refine T.seq fun K1 hK1 => ?_
 refine T.region ?_
 refine rs rfl rfl (ok_box (n := 11) rfl rfl (by decide)) ?_
 refine rs rfl rfl (ok_move (.inr rfl)) ?_
 refine ro_nil ?_
 refine keepK hK1 [1] (by dsimp) (by dsimp) ?_
 refine T.seq fun K2 hK2 => ?_
 refine T.region ?_
 refine rs rfl rfl (ok_load rfl ti_api_Conf rfl rfl) ?_
 refine ro rfl rfl (ok_call rfl rfl rfl ((nums_ok c).plain rfl (by simp [AV.ren, renL_ints]))) ?_
 refine rs rfl rfl (ok_index rfl ti_A7int rfl ti_int rfl rfl (by omega) (by omega) rfl) ?_
 refine rs rfl rfl (ok_move (.inr rfl)) ?_
 refine ro_nil ?_
 refine keepK hK2 [2] (by dsimp) (by dsimp) ?_
 refine T.ret (hQ _ _ _ rfl ?_).1 -- ret 1
 exact TEnt.fin [] (by decide) (by simp) rfl ⟨rfl, trivial⟩
theorem rcheck_ok (c : Cf) : CSpec Tryz.prog 31 [] [.agg (CC c)] [] (.int (chkC c)) := by
 refine CSpec.body Tryz.func31 rfl rfl rfl rfl rfl fun Q hQ => ?_
 refine T.seq fun K1 hK1 => ?_
 refine T.region ?_
 refine rs rfl rfl (ok_box (n := 11) rfl rfl (by decide)) ?_
 refine rs rfl rfl (ok_move (.inr rfl)) ?_
 refine ro_nil ?_
 refine keepK hK1 [1] (by dsimp) (by dsimp) ?_
 refine T.seq fun K2 hK2 => ?_
 refine T.seq fun K3 hK3 => ?_
 refine T.region ?_
 refine rs rfl rfl (ok_fieldAddr rfl ti_api_Conf rfl rfl ti_int (by decide) rfl) ?_
 refine rs rfl rfl (ok_load rfl ti_int rfl rfl) ?_
 refine rs rfl rfl (ok_binOp rfl ti_int rfl) ?_
 refine ro_case rfl rfl (OpOk.step (ok_moveb (.inl rfl) rfl)) (fun hb => ?_) (fun hb => ?_)
 ·(try simp only [dE] at hb)
  refine ro_skip rfl rfl ?_
  refine ro_skip rfl rfl ?_
  refine ro_skip rfl rfl ?_
  refine rs rfl rfl (ok_pickb (t := true) (d := true) rfl rfl rfl) ?_
  refine rs rfl rfl (ok_moveb (c := true) (.inl rfl) rfl) ?_
  refine ro_skip rfl rfl ?_
  refine ro_skip rfl rfl ?_
  refine ro_skip rfl rfl ?_
  refine rs rfl rfl (ok_pickb (t := true) (d := true) rfl rfl rfl) ?_
  refine ro_nil ?_
  refine keepK hK3 [1, 15] (by dsimp) (by dsimp) ?_
  refine T.cond_true rfl ?_
  refine T.seq fun K4 hK4 => ?_
  refine T.region ?_
  refine rs rfl rfl (ok_move (.inr rfl)) ?_
  refine ro_nil ?_
  refine keepK hK4 [2] (by dsimp) (by dsimp) ?_
  refine T.ret (hQ _ _ _ rfl ?_).1 -- ret 1
  exact by (rw [chk_bad (by unfold okC; omega)]; exact TEnt.fin [] (by decide) (by simp) rfl ⟨rfl, trivial⟩)
 ·(try simp only [dE] at hb)
  refine rs rfl rfl (ok_fieldAddr rfl ti_api_Conf rfl rfl ti_int (by decide) rfl) ?_
  refine rs rfl rfl (ok_load rfl ti_int rfl rfl) ?_
  refine rs rfl rfl (ok_binOp rfl ti_int rfl) ?_
  refine rs rfl rfl (ok_pick rfl rfl) ?_
  refine ro_case rfl rfl (OpOk.step (ok_moveb (.inl rfl) rfl)) (fun hb => ?_) (fun hb => ?_)
  ·(try simp only [dE] at hb)
   refine ro_skip rfl rfl ?_
   refine ro_skip rfl rfl ?_
   refine ro_skip rfl rfl ?_
   refine rs rfl rfl (ok_pickb (t := true) (d := true) rfl rfl rfl) ?_
   refine ro_nil ?_
   refine keepK hK3 [1, 15] (by dsimp) (by dsimp) ?_
   refine T.cond_true rfl ?_
   refine T.seq fun K5 hK5 => ?_
   refine T.region ?_
   refine rs rfl rfl (ok_move (.inr rfl)) ?_
   refine ro_nil ?_
   refine keepK hK5 [2] (by dsimp) (by dsimp) ?_
   refine T.ret (hQ _ _ _ rfl ?_).1 -- ret 2
   exact by (rw [chk_bad (by unfold okC; omega)]; exact TEnt.fin [] (by decide) (by simp) rfl ⟨rfl, trivial⟩)
  ·(try simp only [dE] at hb)
   refine rs rfl rfl (ok_load rfl ti_api_Conf rfl rfl) ?_
   refine ro rfl rfl (ok_call rfl rfl rfl ((rsane_ok c).plain rfl rfl)) ?_
   refine rs rfl rfl (ok_unOp rfl rfl) ?_
   refine rs rfl rfl (ok_pick rfl rfl) ?_
   refine ro_nil ?_
   refine keepK hK3 [1, 15] (by dsimp) (by dsimp) ?_
   refine T.cond rfl (fun hc => ?_) (fun hc => ?_) -- cond 1
   ·(try simp only [dE] at hc)
    have hno : ¬ okC c := by
      intro h
      rw [okC_sane h] at hc
      cases hc
    refine T.seq fun K6 hK6 => ?_
    refine T.region ?_
    refine rs rfl rfl (ok_move (.inr rfl)) ?_
    refine ro_nil ?_
    refine keepK hK6 [2] (by dsimp) (by dsimp) ?_
    refine T.ret (hQ _ _ _ rfl ?_).1 -- ret 3
    exact by (rw [chk_bad (by assumption)]; exact TEnt.fin [] (by decide) (by simp) rfl ⟨rfl, trivial⟩)
   ·(try simp only [dE] at hc)
    have hs := hc
    rw [saneC_iff] at hc
    have hmod := Int.emod_nonneg c.cap (by omega : c.unit ≠ 0)
    refine T.skip ?_
    refine keepK hK2 [1] (by dsimp) (by dsimp) ?_
    refine T.seq fun K7 hK7 => ?_
    refine T.seq fun K8 hK8 => ?_
    refine T.region ?_
    refine rs rfl rfl (ok_fieldAddr rfl ti_api_Conf rfl rfl ti_int (by decide) rfl) ?_
    refine rs rfl rfl (ok_load rfl ti_int rfl rfl) ?_
    refine rs rfl rfl (ok_binOp rfl ti_int rfl) ?_
    refine ro_case rfl rfl (OpOk.step (ok_moveb (.inl rfl) rfl)) (fun hb => ?_) (fun hb => ?_)
    ·(try simp only [dE] at hb)
     refine ro_skip rfl rfl ?_
     refine ro_skip rfl rfl ?_
     refine ro_skip rfl rfl ?_
     refine rs rfl rfl (ok_pickb (t := true) (d := true) rfl rfl rfl) ?_
     refine rs rfl rfl (ok_moveb (c := true) (.inl rfl) rfl) ?_
     refine ro_skip rfl rfl ?_
     refine ro_skip rfl rfl ?_
     refine ro_skip rfl rfl ?_
     refine rs rfl rfl (ok_pickb (t := true) (d := true) rfl rfl rfl) ?_
     refine rs rfl rfl (ok_moveb (c := true) (.inl rfl) rfl) ?_
     refine ro_skip rfl rfl ?_
     refine ro_skip rfl rfl ?_
     refine ro_skip rfl rfl ?_
     refine rs rfl rfl (ok_pickb (t := true) (d := true) rfl rfl rfl) ?_
     refine rs rfl rfl (ok_moveb (c := true) (.inl rfl) rfl) ?_
     refine ro_skip rfl rfl ?_
     refine ro_skip rfl rfl ?_
     refine ro_skip rfl rfl ?_
     refine rs rfl rfl (ok_pickb (t := true) (d := true) rfl rfl rfl) ?_
     refine rs rfl rfl (ok_moveb (c := true) (.inl rfl) rfl) ?_
     refine ro_skip rfl rfl ?_
     refine ro_skip rfl rfl ?_
     refine ro_skip rfl rfl ?_
     refine ro_skip rfl rfl ?_
     refine ro_skip rfl rfl ?_
     refine ro_skip rfl rfl ?_
     refine rs rfl rfl (ok_pickb (t := true) (d := true) rfl rfl rfl) ?_
     refine ro_nil ?_
     refine keepK hK8 [1, 46] (by dsimp) (by dsimp) ?_
     refine T.cond_true rfl ?_
     refine T.seq fun K9 hK9 => ?_
     refine T.region ?_
     refine rs rfl rfl (ok_move (.inr rfl)) ?_
     refine ro_nil ?_
     refine keepK hK9 [2] (by dsimp) (by dsimp) ?_
     refine T.ret (hQ _ _ _ rfl ?_).1 -- ret 4
     exact by (rw [chk_bad (by unfold okC; omega)]; exact TEnt.fin [] (by decide) (by simp) rfl ⟨rfl, trivial⟩)
    ·(try simp only [dE] at hb)
     refine rs rfl rfl (ok_fieldAddr rfl ti_api_Conf rfl rfl ti_int (by decide) rfl) ?_
     refine rs rfl rfl (ok_load rfl ti_int rfl rfl) ?_
     refine rs rfl rfl (ok_binOp rfl ti_int rfl) ?_
     refine rs rfl rfl (ok_pick rfl rfl) ?_
     refine ro_case rfl rfl (OpOk.step (ok_moveb (.inl rfl) rfl)) (fun hb => ?_) (fun hb => ?_)
     ·(try simp only [dE] at hb)
      refine ro_skip rfl rfl ?_
      refine ro_skip rfl rfl ?_
      refine ro_skip rfl rfl ?_
      refine rs rfl rfl (ok_pickb (t := true) (d := true) rfl rfl rfl) ?_
      refine rs rfl rfl (ok_moveb (c := true) (.inl rfl) rfl) ?_
      refine ro_skip rfl rfl ?_
      refine ro_skip rfl rfl ?_
      refine ro_skip rfl rfl ?_
      refine rs rfl rfl (ok_pickb (t := true) (d := true) rfl rfl rfl) ?_
      refine rs rfl rfl (ok_moveb (c := true) (.inl rfl) rfl) ?_
      refine ro_skip rfl rfl ?_
      refine ro_skip rfl rfl ?_
      refine ro_skip rfl rfl ?_
      refine rs rfl rfl (ok_pickb (t := true) (d := true) rfl rfl rfl) ?_
      refine rs rfl rfl (ok_moveb (c := true) (.inl rfl) rfl) ?_
      refine ro_skip rfl rfl ?_
      refine ro_skip rfl rfl ?_
      refine ro_skip rfl rfl ?_
      refine ro_skip rfl rfl ?_
      refine ro_skip rfl rfl ?_
      refine ro_skip rfl rfl ?_
      refine rs rfl rfl (ok_pickb (t := true) (d := true) rfl rfl rfl) ?_
      refine ro_nil ?_
      refine keepK hK8 [1, 46] (by dsimp) (by dsimp) ?_
      refine T.cond_true rfl ?_
      refine T.seq fun K10 hK10 => ?_
      refine T.region ?_
      refine rs rfl rfl (ok_move (.inr rfl)) ?_
      refine ro_nil ?_
      refine keepK hK10 [2] (by dsimp) (by dsimp) ?_
      refine T.ret (hQ _ _ _ rfl ?_).1 -- ret 5
      exact by (rw [chk_bad (by unfold okC; omega)]; exact TEnt.fin [] (by decide) (by simp) rfl ⟨rfl, trivial⟩)
     ·(try simp only [dE] at hb)
      refine rs rfl rfl (ok_fieldAddr rfl ti_api_Conf rfl rfl ti_int (by decide) rfl) ?_
      refine rs rfl rfl (ok_load rfl ti_int rfl rfl) ?_
      refine rs rfl rfl (ok_binOp rfl ti_int rfl) ?_
      refine rs rfl rfl (ok_pick rfl rfl) ?_
      refine ro_case rfl rfl (OpOk.step (ok_moveb (.inl rfl) rfl)) (fun hb => ?_) (fun hb => ?_)
      ·(try simp only [dE] at hb)
       refine ro_skip rfl rfl ?_
       refine ro_skip rfl rfl ?_
       refine ro_skip rfl rfl ?_
       refine rs rfl rfl (ok_pickb (t := true) (d := true) rfl rfl rfl) ?_
       refine rs rfl rfl (ok_moveb (c := true) (.inl rfl) rfl) ?_
       refine ro_skip rfl rfl ?_
       refine ro_skip rfl rfl ?_
       refine ro_skip rfl rfl ?_
       refine rs rfl rfl (ok_pickb (t := true) (d := true) rfl rfl rfl) ?_
       refine rs rfl rfl (ok_moveb (c := true) (.inl rfl) rfl) ?_
       refine ro_skip rfl rfl ?_
       refine ro_skip rfl rfl ?_
       refine ro_skip rfl rfl ?_
       refine ro_skip rfl rfl ?_
       refine ro_skip rfl rfl ?_
       refine ro_skip rfl rfl ?_
       refine rs rfl rfl (ok_pickb (t := true) (d := true) rfl rfl rfl) ?_
       refine ro_nil ?_
       refine keepK hK8 [1, 46] (by dsimp) (by dsimp) ?_
       refine T.cond_true rfl ?_
       refine T.seq fun K11 hK11 => ?_
       refine T.region ?_
       refine rs rfl rfl (ok_move (.inr rfl)) ?_
       refine ro_nil ?_
       refine keepK hK11 [2] (by dsimp) (by dsimp) ?_
       refine T.ret (hQ _ _ _ rfl ?_).1 -- ret 6
       exact by (rw [chk_bad (by unfold okC; omega)]; exact TEnt.fin [] (by decide) (by simp) rfl ⟨rfl, trivial⟩)
      ·(try simp only [dE] at hb)
       refine rs rfl rfl (ok_fieldAddr rfl ti_api_Conf rfl rfl ti_int (by decide) rfl) ?_
       refine rs rfl rfl (ok_load rfl ti_int rfl rfl) ?_
       refine rs rfl rfl (ok_binOp rfl ti_int rfl) ?_
       refine rs rfl rfl (ok_pick rfl rfl) ?_
       refine ro_case rfl rfl (OpOk.step (ok_moveb (.inl rfl) rfl)) (fun hb => ?_) (fun hb => ?_)
       ·(try simp only [dE] at hb)
        refine ro_skip rfl rfl ?_
        refine ro_skip rfl rfl ?_
        refine ro_skip rfl rfl ?_
        refine rs rfl rfl (ok_pickb (t := true) (d := true) rfl rfl rfl) ?_
        refine rs rfl rfl (ok_moveb (c := true) (.inl rfl) rfl) ?_
        refine ro_skip rfl rfl ?_
        refine ro_skip rfl rfl ?_
        refine ro_skip rfl rfl ?_
        refine ro_skip rfl rfl ?_
        refine ro_skip rfl rfl ?_
        refine ro_skip rfl rfl ?_
        refine rs rfl rfl (ok_pickb (t := true) (d := true) rfl rfl rfl) ?_
        refine ro_nil ?_
        refine keepK hK8 [1, 46] (by dsimp) (by dsimp) ?_
        refine T.cond_true rfl ?_
        refine T.seq fun K12 hK12 => ?_
        refine T.region ?_
        refine rs rfl rfl (ok_move (.inr rfl)) ?_
        refine ro_nil ?_
        refine keepK hK12 [2] (by dsimp) (by dsimp) ?_
        refine T.ret (hQ _ _ _ rfl ?_).1 -- ret 7
        exact by (rw [chk_bad (by unfold okC; omega)]; exact TEnt.fin [] (by decide) (by simp) rfl ⟨rfl, trivial⟩)
       ·(try simp only [dE] at hb)
        refine rs rfl rfl (ok_fieldAddr rfl ti_api_Conf rfl rfl ti_int (by decide) rfl) ?_
        refine rs rfl rfl (ok_load rfl ti_int rfl rfl) ?_
        refine rs rfl rfl (ok_binOp rfl ti_int rfl) ?_
        refine rs rfl rfl (ok_pick rfl rfl) ?_
        refine ro_case rfl rfl (OpOk.step (ok_moveb (.inl rfl) rfl)) (fun hb => ?_) (fun hb => ?_)
        ·(try simp only [dE] at hb)
         refine ro_skip rfl rfl ?_
         refine ro_skip rfl rfl ?_
         refine ro_skip rfl rfl ?_
         refine ro_skip rfl rfl ?_
         refine ro_skip rfl rfl ?_
         refine ro_skip rfl rfl ?_
         refine rs rfl rfl (ok_pickb (t := true) (d := true) rfl rfl rfl) ?_
         refine ro_nil ?_
         refine keepK hK8 [1, 46] (by dsimp) (by dsimp) ?_
         refine T.cond_true rfl ?_
         refine T.seq fun K13 hK13 => ?_
         refine T.region ?_
         refine rs rfl rfl (ok_move (.inr rfl)) ?_
         refine ro_nil ?_
         refine keepK hK13 [2] (by dsimp) (by dsimp) ?_
         refine T.ret (hQ _ _ _ rfl ?_).1 -- ret 8
         exact by (rw [chk_bad (by unfold okC; omega)]; exact TEnt.fin [] (by decide) (by simp) rfl ⟨rfl, trivial⟩)
        ·(try simp only [dE] at hb)
         refine rs rfl rfl (ok_fieldAddr rfl ti_api_Conf rfl rfl ti_int (by decide) rfl) ?_
         refine rs rfl rfl (ok_load rfl ti_int rfl rfl) ?_
         refine rs rfl rfl (ok_fieldAddr rfl ti_api_Conf rfl rfl ti_int (by decide) rfl) ?_
         refine rs rfl rfl (ok_load rfl ti_int rfl rfl) ?_
         refine rs rfl rfl (ok_rem64 rfl ti_int rfl rfl (by omega) (by omega)) ?_
         refine rs rfl rfl (ok_binOp rfl ti_int rfl) ?_
         refine rs rfl rfl (ok_pick rfl rfl) ?_
         refine ro_nil ?_
         refine keepK hK8 [1, 46] (by dsimp) (by dsimp) ?_
         refine T.cond rfl (fun hc => ?_) (fun hc => ?_) -- cond 2
         ·(try simp only [dE] at hc)
          refine T.seq fun K14 hK14 => ?_
          refine T.region ?_
          refine rs rfl rfl (ok_move (.inr rfl)) ?_
          refine ro_nil ?_
          refine keepK hK14 [2] (by dsimp) (by dsimp) ?_
          refine T.ret (hQ _ _ _ rfl ?_).1 -- ret 9
          exact by (rw [chk_bad (by unfold okC; omega)]; exact TEnt.fin [] (by decide) (by simp) rfl ⟨rfl, trivial⟩)
         ·(try simp only [dE] at hc)
          refine T.skip ?_
          refine keepK hK7 [1] (by dsimp) (by dsimp) ?_
          refine T.seq fun K15 hK15 => ?_
          refine T.seq fun K16 hK16 => ?_
          refine T.region ?_
          refine rs rfl rfl (ok_fieldAddr rfl ti_api_Conf rfl rfl ti_int (by decide) rfl) ?_
          refine rs rfl rfl (ok_load rfl ti_int rfl rfl) ?_
          refine rs rfl rfl (ok_binOp rfl ti_int rfl) ?_
          refine ro_case rfl rfl (OpOk.step (ok_moveb (.inl rfl) rfl)) (fun hb => ?_) (fun hb => ?_)
          ·(try simp only [dE] at hb)
           refine ro_skip rfl rfl ?_
           refine ro_skip rfl rfl ?_
           refine ro_skip rfl rfl ?_
           refine ro_skip rfl rfl ?_
           refine ro_skip rfl rfl ?_
           refine ro_skip rfl rfl ?_
           refine ro_skip rfl rfl ?_
           refine ro_skip rfl rfl ?_
           refine ro_skip rfl rfl ?_
           refine rs rfl rfl (ok_pickb (t := true) (d := true) rfl rfl rfl) ?_
           refine rs rfl rfl (ok_moveb (c := true) (.inl rfl) rfl) ?_
           refine ro_skip rfl rfl ?_
           refine ro_skip rfl rfl ?_
           refine ro_skip rfl rfl ?_
           refine ro_skip rfl rfl ?_
           refine ro_skip rfl rfl ?_
           refine rs rfl rfl (ok_pickb (t := true) (d := true) rfl rfl rfl) ?_
           refine rs rfl rfl (ok_moveb (c := true) (.inl rfl) rfl) ?_
           refine ro_skip rfl rfl ?_
           refine ro_skip rfl rfl ?_
           refine ro_skip rfl rfl ?_
           refine ro_skip rfl rfl ?_
           refine ro_skip rfl rfl ?_
           refine rs rfl rfl (ok_pickb (t := true) (d := true) rfl rfl rfl) ?_
           refine ro_nil ?_
           refine keepK hK16 [1, 74] (by dsimp) (by dsimp) ?_
           refine T.cond_true rfl ?_
           refine T.seq fun K17 hK17 => ?_
           refine T.region ?_
           refine rs rfl rfl (ok_move (.inr rfl)) ?_
           refine ro_nil ?_
           refine keepK hK17 [2] (by dsimp) (by dsimp) ?_
           refine T.ret (hQ _ _ _ rfl ?_).1 -- ret 10
           exact by (rw [chk_bad (by unfold okC; omega)]; exact TEnt.fin [] (by decide) (by simp) rfl ⟨rfl, trivial⟩)
          ·(try simp only [dE] at hb)
           refine rs rfl rfl (ok_fieldAddr rfl ti_api_Conf rfl rfl ti_int (by decide) rfl) ?_
           refine rs rfl rfl (ok_load rfl ti_int rfl rfl) ?_
           refine rs rfl rfl (ok_fieldAddr rfl ti_api_Conf rfl rfl ti_int (by decide) rfl) ?_
           refine rs rfl rfl (ok_load rfl ti_int rfl rfl) ?_
           refine rs rfl rfl (ok_add64 rfl ti_int rfl rfl (by omega) (by omega)) ?_
           refine rs rfl rfl (ok_fieldAddr rfl ti_api_Conf rfl rfl ti_int (by decide) rfl) ?_
           refine rs rfl rfl (ok_load rfl ti_int rfl rfl) ?_
           refine rs rfl rfl (ok_add64 rfl ti_int rfl rfl (by omega) (by omega)) ?_
           refine rs rfl rfl (ok_binOp rfl ti_int rfl) ?_
           refine rs rfl rfl (ok_pick rfl rfl) ?_
           refine ro_case rfl rfl (OpOk.step (ok_moveb (.inl rfl) rfl)) (fun hb => ?_) (fun hb => ?_)
           ·(try simp only [dE] at hb)
            refine ro_skip rfl rfl ?_
            refine ro_skip rfl rfl ?_
            refine ro_skip rfl rfl ?_
            refine ro_skip rfl rfl ?_
            refine ro_skip rfl rfl ?_
            refine rs rfl rfl (ok_pickb (t := true) (d := true) rfl rfl rfl) ?_
            refine rs rfl rfl (ok_moveb (c := true) (.inl rfl) rfl) ?_
            refine ro_skip rfl rfl ?_
            refine ro_skip rfl rfl ?_
            refine ro_skip rfl rfl ?_
            refine ro_skip rfl rfl ?_
            refine ro_skip rfl rfl ?_
            refine rs rfl rfl (ok_pickb (t := true) (d := true) rfl rfl rfl) ?_
            refine ro_nil ?_
            refine keepK hK16 [1, 74] (by dsimp) (by dsimp) ?_
            refine T.cond_true rfl ?_
            refine T.seq fun K18 hK18 => ?_
            refine T.region ?_
            refine rs rfl rfl (ok_move (.inr rfl)) ?_
            refine ro_nil ?_
            refine keepK hK18 [2] (by dsimp) (by dsimp) ?_
            refine T.ret (hQ _ _ _ rfl ?_).1 -- ret 11
            exact by (rw [chk_bad (by unfold okC; omega)]; exact TEnt.fin [] (by decide) (by simp) rfl ⟨rfl, trivial⟩)
           ·(try simp only [dE] at hb)
            refine rs rfl rfl (ok_fieldAddr rfl ti_api_Conf rfl rfl ti_int (by decide) rfl) ?_
            refine rs rfl rfl (ok_load rfl ti_int rfl rfl) ?_
            refine rs rfl rfl (ok_fieldAddr rfl ti_api_Conf rfl rfl ti_int (by decide) rfl) ?_
            refine rs rfl rfl (ok_load rfl ti_int rfl rfl) ?_
            refine rs rfl rfl (ok_binOp rfl ti_int rfl) ?_
            refine rs rfl rfl (ok_pick rfl rfl) ?_
            refine ro_case rfl rfl (OpOk.step (ok_moveb (.inl rfl) rfl)) (fun hb => ?_) (fun hb => ?_)
            ·(try simp only [dE] at hb)
             refine ro_skip rfl rfl ?_
             refine ro_skip rfl rfl ?_
             refine ro_skip rfl rfl ?_
             refine ro_skip rfl rfl ?_
             refine ro_skip rfl rfl ?_
             refine rs rfl rfl (ok_pickb (t := true) (d := true) rfl rfl rfl) ?_
             refine ro_nil ?_
             refine keepK hK16 [1, 74] (by dsimp) (by dsimp) ?_
             refine T.cond_true rfl ?_
             refine T.seq fun K19 hK19 => ?_
             refine T.region ?_
             refine rs rfl rfl (ok_move (.inr rfl)) ?_
             refine ro_nil ?_
             refine keepK hK19 [2] (by dsimp) (by dsimp) ?_
             refine T.ret (hQ _ _ _ rfl ?_).1 -- ret 12
             exact by (rw [chk_bad (by unfold okC; omega)]; exact TEnt.fin [] (by decide) (by simp) rfl ⟨rfl, trivial⟩)
            ·(try simp only [dE] at hb)
             refine rs rfl rfl (ok_fieldAddr rfl ti_api_Conf rfl rfl ti_int (by decide) rfl) ?_
             refine rs rfl rfl (ok_load rfl ti_int rfl rfl) ?_
             refine rs rfl rfl (ok_fieldAddr rfl ti_api_Conf rfl rfl ti_int (by decide) rfl) ?_
             refine rs rfl rfl (ok_load rfl ti_int rfl rfl) ?_
             refine rs rfl rfl (ok_binOp rfl ti_int rfl) ?_
             refine rs rfl rfl (ok_pick rfl rfl) ?_
             refine ro_nil ?_
             refine keepK hK16 [1, 74] (by dsimp) (by dsimp) ?_
             refine T.cond rfl (fun hc => ?_) (fun hc => ?_) -- cond 3
             ·(try simp only [dE] at hc)
              refine T.seq fun K20 hK20 => ?_
              refine T.region ?_
              refine rs rfl rfl (ok_move (.inr rfl)) ?_
              refine ro_nil ?_
              refine keepK hK20 [2] (by dsimp) (by dsimp) ?_
              refine T.ret (hQ _ _ _ rfl ?_).1 -- ret 13
              exact by (rw [chk_bad (by unfold okC; omega)]; exact TEnt.fin [] (by decide) (by simp) rfl ⟨rfl, trivial⟩)
             ·(try simp only [dE] at hc)
              refine T.skip ?_
              refine keepK hK15 [1] (by dsimp) (by dsimp) ?_
              refine T.seq fun K21 hK21 => ?_
              refine T.seq fun K22 hK22 => ?_
              refine T.region ?_
              refine rs rfl rfl (ok_fieldAddr rfl ti_api_Conf rfl rfl ti_int (by decide) rfl) ?_
              refine rs rfl rfl (ok_load rfl ti_int rfl rfl) ?_
              refine rs rfl rfl (ok_fieldAddr rfl ti_api_Conf rfl rfl ti_int (by decide) rfl) ?_
              refine rs rfl rfl (ok_load rfl ti_int rfl rfl) ?_
              refine rs rfl rfl (ok_fieldAddr rfl ti_api_Conf rfl rfl ti_int (by decide) rfl) ?_
              refine rs rfl rfl (ok_load rfl ti_int rfl rfl) ?_
              refine rs rfl rfl (ok_add64 rfl ti_int rfl rfl (by omega) (by omega)) ?_
              refine rs rfl rfl (ok_fieldAddr rfl ti_api_Conf rfl rfl ti_int (by decide) rfl) ?_
              refine rs rfl rfl (ok_load rfl ti_int rfl rfl) ?_
              refine rs rfl rfl (ok_add64 rfl ti_int rfl rfl (by omega) (by omega)) ?_
              refine rs rfl rfl (ok_binOp rfl ti_int rfl) ?_
              refine ro_case rfl rfl (OpOk.step (ok_moveb (.inl rfl) rfl)) (fun hb => ?_) (fun hb => ?_)
              ·(try simp only [dE] at hb)
               refine ro_skip rfl rfl ?_
               refine ro_skip rfl rfl ?_
               refine ro_skip rfl rfl ?_
               refine rs rfl rfl (ok_pickb (t := true) (d := true) rfl rfl rfl) ?_
               refine ro_nil ?_
               refine keepK hK22 [1, 90] (by dsimp) (by dsimp) ?_
               refine T.cond_true rfl ?_
               refine T.seq fun K23 hK23 => ?_
               refine T.region ?_
               refine rs rfl rfl (ok_move (.inr rfl)) ?_
               refine ro_nil ?_
               refine keepK hK23 [2] (by dsimp) (by dsimp) ?_
               refine T.ret (hQ _ _ _ rfl ?_).1 -- ret 14
               exact by (rw [chk_bad (by unfold okC; omega)]; exact TEnt.fin [] (by decide) (by simp) rfl ⟨rfl, trivial⟩)
              ·(try simp only [dE] at hb)
               refine rs rfl rfl (ok_fieldAddr rfl ti_api_Conf rfl rfl ti_int (by decide) rfl) ?_
               refine rs rfl rfl (ok_load rfl ti_int rfl rfl) ?_
               refine rs rfl rfl (ok_binOp rfl ti_int rfl) ?_
               refine rs rfl rfl (ok_pick rfl rfl) ?_
               refine ro_nil ?_
               refine keepK hK22 [1, 90] (by dsimp) (by dsimp) ?_
               refine T.cond rfl (fun hc => ?_) (fun hc => ?_) -- cond 4
               ·(try simp only [dE] at hc)
                refine T.seq fun K24 hK24 => ?_
                refine T.region ?_
                refine rs rfl rfl (ok_move (.inr rfl)) ?_
                refine ro_nil ?_
                refine keepK hK24 [2] (by dsimp) (by dsimp) ?_
                refine T.ret (hQ _ _ _ rfl ?_).1 -- ret 15
                exact by (rw [chk_bad (by unfold okC; omega)]; exact TEnt.fin [] (by decide) (by simp) rfl ⟨rfl, trivial⟩)
               ·(try simp only [dE] at hc)
                have hyes : okC c := by unfold okC; omega
                refine T.skip ?_
                refine keepK hK21 [1] (by dsimp) (by dsimp) ?_
                refine T.seq fun K25 hK25 => ?_
                refine T.seq fun K26 hK26 => ?_
                refine T.drawH mixed [] ?_
                refine any_take 0 rfl (by first | rfl | decide +kernel) rfl (HeldL.refl _) (fun H' hH => OpOk.step (ok_load rfl ti_api_Conf (locA_held hH rfl) rfl)) ?_
                refine any_take 3 rfl (by first | rfl | decide +kernel) rfl (HeldL.refl _) (fun H' hH => OpOk.step (ok_fieldAddr rfl ti_api_Conf rfl rfl ti_int (by decide) rfl)) ?_
                refine any_take 4 rfl (by first | rfl | decide +kernel) rfl (HeldL.refl _) (fun H' hH => OpOk.step (ok_load rfl ti_int (locA_held hH rfl) rfl)) ?_
                refine any_one 1 rfl (by first | rfl | decide +kernel) rfl rfl (ok_call rfl rfl rfl ((nums_ok c).plain rfl (by simp [AV.ren, renL_ints]))) (.inr (by first | (simp [HeldL]; done) | (simp only [dH]; (repeat' first | trivial | rfl | constructor)))) ?_
                refine any_take 2 rfl (by first | rfl | decide +kernel) rfl (by first | exact HeldL.refl _ | exact HeldL.append _ _ | simp [HeldL]) (fun H' hH => OpOk.step (ok_index rfl ti_A7int rfl ti_int rfl rfl (by omega) (by omega) rfl)) ?_
                refine any_take 5 rfl (by first | rfl | decide +kernel) rfl (by first | exact HeldL.refl _ | exact HeldL.append _ _ | simp [HeldL]) (fun H' hH => OpOk.step (ok_binOp rfl ti_int rfl)) ?_
                refine any_done rfl ?_
                refine keepK hK26 [96] (by dsimp) (by dsimp) ?_
                refine T.cond rfl (fun hc => ?_) (fun hc => ?_) -- cond 5
                ·(try simp only [dE] at hc)
                 refine T.seq fun K27 hK27 => ?_
                 refine T.region ?_
                 refine rs rfl rfl (ok_move (.inr rfl)) ?_
                 refine ro_nil ?_
                 refine keepK hK27 [2] (by dsimp) (by dsimp) ?_
                 refine T.ret (hQ _ _ _ rfl ?_).1 -- ret 16
                 exact by (rw [chk_room (by assumption) (by assumption)]; exact TEnt.fin [] (by decide) (by simp) rfl ⟨rfl, trivial⟩)
                ·(try simp only [dE] at hc)
                 refine T.skip ?_
                 refine keepK hK25 [] (by dsimp) (by dsimp) ?_
                 refine T.seq fun K28 hK28 => ?_
                 refine T.region ?_
                 refine rs rfl rfl (ok_move (.inr rfl)) ?_
                 refine ro_nil ?_
                 refine keepK hK28 [2] (by dsimp) (by dsimp) ?_
                 refine T.ret (hQ _ _ _ rfl ?_).1 -- ret 17
                 exact by (rw [chk_ok (by assumption) (by assumption)]; exact TEnt.fin [] (by decide) (by simp) rfl ⟨rfl, trivial⟩)
def smallC (c : Cf) : Prop := chkC c = 0 ∧ c.mem ≤ 5 ∧ c.unit ≤ 3 ∧ c.blk ≤ 128 ∧ c.cap ≤ 32 ∧ c.zon ≤ 4 ∧ c.spa ≤ 2 ∧ c.met ≤ 4
instance (c : Cf) : Decidable (smallC c) := by unfold smallC; infer_instance
end Go.Proofs.YtjklgbafnfoolaaGreat.AmF
namespace Go.Proofs.YtjklgbafnfoolaaGreat.AmF
open Go Go.AM
set_option maxRecDepth 100000
set_option linter.unusedSimpArgs false
set_option linter.unusedVariables false
attribute [local simp] tkeep tget tput ev cav argsTM pickA normT putA splice AV.cells ints_length rowsA_length
/-- A parity of the log. -/
structure Pr where
  w : Int
  b : List Int
def PrC (p : Pr) : List AV := [.int p.w, .fz 1 (ints .u8 p.b)]
theorem PrC_ren (ρ : Nat → Option Nat) (p : Pr) : renL ρ (PrC p) = PrC p := by simp [PrC, renL, AV.ren, renL_ints]
def Prs (l : List Pr) : List AV := l.map fun p => .agg (PrC p)
theorem Prs_len (l : List Pr) : (Prs l).length = l.length := by simp [Prs]
theorem Prs_get {l : List Pr} {i : Nat} {p : Pr} (h : l[i]? = some p) : (Prs l)[i]? = some (.agg (PrC p)) := by simp [Prs, h]
theorem Prs_ren (ρ : Nat → Option Nat) (l : List Pr) : renL ρ (Prs l) = Prs l := by
  rw [renL_map]; simp [Prs, AV.ren, PrC_ren]
/-- A logical zone, as the log tells of it. -/
structure Zn where
  gen : Int
  slot : Int
  full : Bool
  w : Int
  whole : Bool
  pars : List Pr
def ZnC (z : Zn) : List AV := [.int z.gen, .int z.slot, .b z.full, .int z.w, .b z.whole, .fz 2 (Prs z.pars)]
theorem ZnC_ren (ρ : Nat → Option Nat) (z : Zn) : renL ρ (ZnC z) = ZnC z := by simp [ZnC, renL, AV.ren, Prs_ren]
def ZnB (z : Zn) : Blk := ⟨6, true, [.agg (ZnC z)]⟩
theorem ZnB_ren (ρ : Nat → Option Nat) (z : Zn) : Blk.ren ρ (ZnB z) = ZnB z := by simp [ZnB, Blk.ren, renL, AV.ren, ZnC_ren]
def Zns (l : List Zn) : List AV := l.map fun z => .agg (ZnC z)
theorem Zns_len (l : List Zn) : (Zns l).length = l.length := by simp [Zns]
theorem Zns_get {l : List Zn} {i : Nat} {z : Zn} (h : l[i]? = some z) : (Zns l)[i]? = some (.agg (ZnC z)) := by simp [Zns, h]
theorem Zns_ren (ρ : Nat → Option Nat) (l : List Zn) : renL ρ (Zns l) = Zns l := by
  rw [renL_map]; simp [Zns, AV.ren, ZnC_ren]
/-- A state. -/
structure St where
  c : Cf
  ep : Int
  sq : Int
  st : List Int
  zs : List Zn
def StC (s : St) : List AV := CC s.c ++ [.int s.ep, .int s.sq, .fz 1 (ints .i64 s.st), .fz 6 (Zns s.zs)]
theorem StC_ren (ρ : Nat → Option Nat) (s : St) : renL ρ (StC s) = StC s := by
  simp only [StC, renL_map, List.map_append]
  rw [← renL_map, CC_ren]
  simp [AV.ren, renL_ints, Zns_ren]
def StB (s : St) : Blk := ⟨15, true, [.agg (StC s)]⟩
theorem StB_ren (ρ : Nat → Option Nat) (s : St) : Blk.ren ρ (StB s) = StB s := by simp [StB, Blk.ren, renL, AV.ren, StC_ren]
attribute [local simp] Prs_len Zns_len
/-- The first place at which it is so; -1: none. -/
def fIdx {α : Type} (p : α → Bool) (l : List α) : Int := match l.findIdx? p with
  | some i => (i : Int)
  | none => -1
theorem fIdx_hit {α : Type} {p : α → Bool} {l : List α} {i : Nat} {x : α} (hx : l[i]? = some x) (hp : p x = true) (h : ∀ y ∈ l.take i, p y = false) : fIdx p l = i := by
  have hi := (List.getElem?_eq_some_iff.1 hx).1
  have : l.findIdx? p = some i := by
    rw [List.findIdx?_eq_some_iff_getElem]
    refine ⟨hi, ?_, fun j hj => ?_⟩
    · rw [(List.getElem?_eq_some_iff.1 hx).2]; exact hp
    · have := h l[j] (by rw [List.mem_iff_getElem?]; exact ⟨j, by rw [List.getElem?_take, if_pos hj, List.getElem?_eq_getElem (by omega)]⟩)
      rw [this]; decide
  unfold fIdx
  rw [this]
theorem fIdx_none {α : Type} {p : α → Bool} {l : List α} (h : ∀ y ∈ l, p y = false) : fIdx p l = -1 := by
  have : l.findIdx? p = none := by rw [List.findIdx?_eq_none_iff]; exact h
  unfold fIdx
  rw [this]
theorem fIdx_iff {α : Type} (p : α → Bool) (l : List α) : 0 ≤ fIdx p l ↔ ∃ x ∈ l, p x = true := by
  cases h : l.findIdx? p with
  | none =>
    have e : fIdx p l = -1 := by unfold fIdx; rw [h]
    rw [List.findIdx?_eq_none_iff] at h
    rw [e]
    constructor
    · intro h; omega
    · rintro ⟨x, hx, hp⟩; rw [h x hx] at hp; cases hp
  | some i =>
    have e : fIdx p l = i := by unfold fIdx; rw [h]
    rw [List.findIdx?_eq_some_iff_getElem] at h
    obtain ⟨hi, hp, _⟩ := h
    rw [e]
    exact ⟨fun _ => ⟨_, List.getElem_mem hi, hp⟩, fun _ => by omega⟩
theorem fIdx_bd {α : Type} (p : α → Bool) (l : List α) : -1 ≤ fIdx p l ∧ fIdx p l < l.length ∨ fIdx p l = -1 := by
  cases h : l.findIdx? p with
  | none => right; unfold fIdx; rw [h]
  | some i =>
    have e : fIdx p l = i := by unfold fIdx; rw [h]
    rw [List.findIdx?_eq_some_iff_getElem] at h
    left; rw [e]; have := h.1; omega
theorem take_snoc_all {α : Type} {p : α → Bool} {l : List α} {i : Nat} {x : α} (hx : l[i]? = some x) (h : ∀ y ∈ l.take i, p y = false) (hp : p x = false) : ∀ y ∈ l.take (i + 1), p y = false := by
  rw [take_succ_get hx]
  intro y hy
  rcases List.mem_append.1 hy with hy | hy
  · exact h y hy
  · rw [List.mem_singleton.1 hy]; exact hp
theorem sin_ok (n a b : Int) : CSpec Tryz.prog 34 [] [.int n, .int a, .int b] [] (.b (decide (a ≤ n ∧ n ≤ b))) := by
 refine CSpec.body Tryz.func34 rfl rfl rfl rfl rfl fun Q hQ => ?_
 refine T.seq fun K1 hK1 => ?_
 refine T.region ?_
 refine rs rfl rfl (ok_moveb (c := false) (.inr rfl) rfl) ?_
 refine ro_nil ?_
 refine keepK hK1 [0, 1, 2] (by dsimp) (by dsimp) ?_
 refine T.seq fun K2 hK2 => ?_
 refine T.region ?_
 refine rs rfl rfl (ok_move (.inl rfl)) ?_
 refine rs rfl rfl (ok_move (.inl rfl)) ?_
 refine rs rfl rfl (ok_binOp rfl ti_int rfl) ?_
 refine ro_case rfl rfl (OpOk.step (ok_moveb (.inl rfl) rfl)) (fun hb => ?_) (fun hb => ?_)
 ·(try simp only [dE] at hb)
  refine rs rfl rfl (ok_move (.inl rfl)) ?_
  refine rs rfl rfl (ok_move (.inl rfl)) ?_
  refine rs rfl rfl (ok_binOp rfl ti_int rfl) ?_
  refine rs rfl rfl (ok_pick rfl rfl) ?_
  refine rs rfl rfl (ok_move (.inr rfl)) ?_
  refine ro_nil ?_
  refine keepK hK2 [6] (by dsimp) (by dsimp) ?_
  refine T.ret (hQ _ _ _ rfl ?_).1 -- ret 1
  first
    | (rw [decide_eq_false (by omega)]; exact TEnt.toH rfl ⟨rfl, trivial⟩)
    | (have e : decide (a ≤ n ∧ n ≤ b) = decide (n ≤ b) := decide_eq_decide.2 (by omega)
       rw [e]; exact TEnt.toH rfl ⟨rfl, trivial⟩)
 ·(try simp only [dE] at hb)
  refine ro_skip rfl rfl ?_
  refine ro_skip rfl rfl ?_
  refine ro_skip rfl rfl ?_
  refine rs rfl rfl (ok_pickb (t := false) (d := false) rfl rfl rfl) ?_
  refine rs rfl rfl (ok_moveb (c := false) (.inr rfl) rfl) ?_
  refine ro_nil ?_
  refine keepK hK2 [6] (by dsimp) (by dsimp) ?_
  refine T.ret (hQ _ _ _ rfl ?_).1 -- ret 2
  first
    | (rw [decide_eq_false (by omega)]; exact TEnt.toH rfl ⟨rfl, trivial⟩)
    | (have e : decide (a ≤ n ∧ n ≤ b) = decide (n ≤ b) := decide_eq_decide.2 (by omega)
       rw [e]; exact TEnt.toH rfl ⟨rfl, trivial⟩)
theorem sunit_ok (s : St) (hc : chkC s.c = 0) : CSpec Tryz.prog 78 [] [.agg (StC s)] [] (.int (s.c.unit * s.c.blk)) := by
 have hk := chkC_ok hc
 have hm := mul_bd (a := s.c.unit) (b := s.c.blk) (A := 64) (B := 4096) (by have := hk.2.2.1; omega) (by have := hk.2.2.1; omega) (by have := hk.2.2.2.1; omega) (by have := hk.2.2.2.1; omega)
 refine CSpec.body Tryz.func78 rfl rfl rfl rfl rfl fun Q hQ => ?_
 refine T.seq fun K1 hK1 => ?_
 refine T.region ?_
 refine rs rfl rfl (ok_box (n := 15) rfl rfl (by decide)) ?_
 refine rs rfl rfl (ok_move (.inr rfl)) ?_
 refine ro_nil ?_
 refine keepK hK1 [1] (by dsimp) (by dsimp) ?_
 refine T.seq fun K2 hK2 => ?_
 refine T.region ?_
 refine rs rfl rfl (ok_fieldAddr rfl ti_api_State rfl rfl ti_api_Conf (by decide) rfl) ?_
 refine rs rfl rfl (ok_fieldAddr rfl ti_api_Conf rfl rfl ti_int (by decide) rfl) ?_
 refine rs rfl rfl (ok_load rfl ti_int rfl rfl) ?_
 refine rs rfl rfl (ok_fieldAddr rfl ti_api_State rfl rfl ti_api_Conf (by decide) rfl) ?_
 refine rs rfl rfl (ok_fieldAddr rfl ti_api_Conf rfl rfl ti_int (by decide) rfl) ?_
 refine rs rfl rfl (ok_load rfl ti_int rfl rfl) ?_
 refine rs rfl rfl (ok_mul64 rfl ti_int rfl rfl (by omega) (by omega)) ?_
 refine rs rfl rfl (ok_move (.inr rfl)) ?_
 refine ro_nil ?_
 refine keepK hK2 [2] (by dsimp) (by dsimp) ?_
 refine T.ret (hQ _ _ _ rfl ?_).1 -- ret 1
 exact TEnt.fin [] (by decide) (by simp) rfl ⟨rfl, trivial⟩
theorem slots1_ok (c : Cf) (hs : saneC c = true) : CSpec Tryz.prog 109 [CB c] [.ref 0 0 0] [some (CB c)] (.int (c.zon + c.spa)) := by
 have h := (saneC_iff c).1 hs
 refine CSpec.body Tryz.func109 rfl rfl rfl rfl rfl fun Q hQ => ?_
 refine T.seq fun K1 hK1 => ?_
 refine T.region ?_
 refine rs rfl rfl (ok_move (.inr rfl)) ?_
 refine ro_nil ?_
 refine keepK hK1 [0] (by dsimp) (by dsimp) ?_
 refine T.seq fun K2 hK2 => ?_
 refine T.region ?_
 refine rs rfl rfl (ok_fieldAddr rfl ti_api_Conf rfl rfl ti_int (by decide) rfl) ?_
 refine rs rfl rfl (ok_load rfl ti_int rfl rfl) ?_
 refine rs rfl rfl (ok_fieldAddr rfl ti_api_Conf rfl rfl ti_int (by decide) rfl) ?_
 refine rs rfl rfl (ok_load rfl ti_int rfl rfl) ?_
 refine rs rfl rfl (ok_add64 rfl ti_int rfl rfl (by omega) (by omega)) ?_
 refine rs rfl rfl (ok_move (.inr rfl)) ?_
 refine ro_nil ?_
 refine keepK hK2 [1] (by dsimp) (by dsimp) ?_
 refine T.ret (hQ _ _ _ rfl ?_).1 -- ret 1
 exact TEnt.fin [0] (by decide) (by simp) (by simp [normH, hget, CB_ren]) ⟨rfl, trivial⟩
theorem slots_ok (c : Cf) : CSpec Tryz.prog 76 [] [.agg (CC c)] [] (.int (slotsC c)) := by
 refine CSpec.body Tryz.func76 rfl rfl rfl rfl rfl fun Q hQ => ?_
 refine T.seq fun K1 hK1 => ?_
 refine T.region ?_
 refine rs rfl rfl (ok_box (n := 11) rfl rfl (by decide)) ?_
 refine rs rfl rfl (ok_move (.inr rfl)) ?_
 refine ro_nil ?_
 refine keepK hK1 [1] (by dsimp) (by dsimp) ?_
 refine T.seq fun K2 hK2 => ?_
 refine T.region ?_
 refine rs rfl rfl (ok_load rfl ti_api_Conf rfl rfl) ?_
 refine rs rfl rfl (ok_makeFunc rfl) ?_
 refine ro rfl rfl (ok_call rfl rfl rfl (((of_ok c 109 _ (fun hs => slots1_ok c hs)).pass [0] (by decide) (by simp) (by simp [normH, hget]; exact CB_ren _ _) (by simp [renL, AV.ren]; exact ⟨CC_ren _ _, rfl⟩)).eq (x' := .int (slotsC c)) (H'' := [some (CB c)]) rfl (by simp [mergeH, setIds, renH, CB_ren]))) ?_
 refine rs rfl rfl (ok_move (.inr rfl)) ?_
 refine ro_nil ?_
 refine keepK hK2 [2] (by dsimp) (by dsimp) ?_
 refine T.ret (hQ _ _ _ rfl ?_).1 -- ret 1
 exact TEnt.fin [] (by decide) (by simp) rfl ⟨rfl, trivial⟩
theorem index_ok (l : List Int) (x : Int) (hl : l.length ≤ 140737488355328) : CSpec Tryz.prog 74 [] [.fz 1 (ints .i64 l), .int x] [] (.int (fIdx (fun y => decide (x = y)) l)) := by
 refine CSpec.body Tryz.func74 rfl rfl rfl rfl rfl fun Q hQ => ?_
 refine T.seq fun K1 hK1 => ?_
 refine T.region ?_
 refine rs rfl rfl (ok_move (.inr rfl)) ?_
 refine ro_nil ?_
 refine keepK hK1 [0, 1] (by dsimp) (by dsimp) ?_
 refine T.seq fun K2 hK2 => ?_
 refine T.seq fun K3 hK3 => ?_
 refine T.region ?_
 refine rs rfl rfl (ok_move (.inl rfl)) ?_
 refine rs rfl rfl (ok_len' rfl rfl ti_Lint rfl (by first | exact ints_length _ _ | exact rowsA_length _ _ | exact Cms_len _ | exact mapLen _ | rfl)) ?_
 refine rs rfl rfl (ok_move (.inl rfl)) ?_
 refine ro_nil ?_
 refine keepK hK3 [0, 1, 7, 8] (by dsimp) (by dsimp) ?_
 refine T.block ?_
 refine T.loopI (ι := Nat) (fun i => i ≤ l.length ∧ ∀ y ∈ l.take i, decide (x = y) = false) (fun i => l.length - i) (fun i => ([(0, .fz 1 (ints .i64 l)), (1, .int x), (7, .int l.length), (8, .int i)], [])) 0 ⟨Nat.zero_le _, fun y hy => by simp at hy⟩ (TEnt.toH rfl ⟨rfl, rfl, rfl, rfl, trivial⟩) (fun i hi => ?_) -- loop 1
 obtain ⟨hil, hno⟩ := hi
 refine T.seq fun K4 hK4 => ?_
 refine T.region ?_
 refine rs rfl rfl (ok_binOp rfl ti_int rfl) ?_
 refine ro_nil ?_
 refine keepK hK4 [0, 1, 7, 8, 9] (by dsimp) (by dsimp) ?_
 refine T.seq fun K5 hK5 => ?_
 refine T.cond rfl (fun hc => ?_) (fun hc => ?_) -- cond 1
 ·(try simp only [dE] at hc)
  obtain ⟨y, hy⟩ : ∃ y, l[i]? = some y := ⟨_, List.getElem?_eq_getElem (by omega)⟩
  refine T.skip ?_
  refine keepK hK5 [0, 1, 7, 8] (by dsimp) (by dsimp) ?_
  refine T.seq fun K6 hK6 => ?_
  refine T.block ?_
  refine T.seq fun K7 hK7 => ?_
  refine T.region ?_
  refine rs rfl rfl (ok_move (.inl rfl)) ?_
  refine rs rfl rfl (ok_move (.inr rfl)) ?_
  refine ro_nil ?_
  refine keepK hK7 [0, 1, 5, 7, 8] (by dsimp) (by dsimp) ?_
  refine T.seq fun K8 hK8 => ?_
  refine T.region ?_
  refine rs rfl rfl (ok_move (.inl rfl)) ?_
  refine rs rfl rfl (ok_move (.inl rfl)) ?_
  refine rs rfl rfl (ok_move (.inl rfl)) ?_
  refine rs rfl rfl (by exact ok_index_ints rfl ti_Lint rfl ti_int rfl rfl rfl (by omega) (by simpa using hy)) ?_
  refine rs rfl rfl (ok_load rfl ti_int rfl rfl) ?_
  refine rs rfl rfl (ok_binOp rfl ti_int rfl) ?_
  refine ro_nil ?_
  refine keepK hK8 [0, 1, 5, 7, 8, 16] (by dsimp) (by dsimp) ?_
  refine T.cond rfl (fun hc => ?_) (fun hc => ?_) -- cond 2
  ·(try simp only [dE] at hc)
   rw [fIdx_hit hy (by simpa using hc) hno] at hQ
   refine T.seq fun K9 hK9 => ?_
   refine T.region ?_
   refine rs rfl rfl (ok_move (.inl rfl)) ?_
   refine rs rfl rfl (ok_move (.inr rfl)) ?_
   refine ro_nil ?_
   refine keepK hK9 [4] (by dsimp) (by dsimp) ?_
   refine T.ret (hQ _ _ _ rfl ?_).1 -- ret 1
   exact TEnt.toH rfl ⟨rfl, trivial⟩
  ·(try simp only [dE] at hc)
   have hyn : decide (x = y) = false := by simpa using hc
   refine T.skip ?_
   refine keepK hK6 [0, 1, 7, 8] (by dsimp) (by dsimp) ?_
   refine T.region ?_
   refine rs rfl rfl (ok_add64 rfl ti_int rfl rfl (by omega) (by omega)) ?_
   refine rs rfl rfl (ok_move (.inl rfl)) ?_
   refine ro_nil ?_
   exact ⟨i + 1, ⟨by omega, take_snoc_all hy hno hyn⟩, by omega, TEnt.toH rfl ⟨rfl, rfl, rfl, rfl, trivial⟩⟩
 ·(try simp only [dE] at hc)
  have hin : i = l.length := by omega
  rw [hin, List.take_length] at hno
  rw [fIdx_none hno] at hQ
  refine T.exit ?_
  refine keepK hK2 [] (by dsimp) (by dsimp) ?_
  refine T.seq fun K10 hK10 => ?_
  refine T.region ?_
  refine rs rfl rfl (ok_move (.inr rfl)) ?_
  refine ro_nil ?_
  refine keepK hK10 [4] (by dsimp) (by dsimp) ?_
  refine T.ret (hQ _ _ _ rfl ?_).1 -- ret 2
  exact TEnt.toH rfl ⟨rfl, trivial⟩
theorem contains_ok (l : List Int) (x : Int) (hl : l.length ≤ 140737488355328) : CSpec Tryz.prog 35 [] [.fz 1 (ints .i64 l), .int x] [] (.b (decide (x ∈ l))) := by
 refine CSpec.body Tryz.func35 rfl rfl rfl rfl rfl fun Q hQ => ?_
 refine T.seq fun K1 hK1 => ?_
 refine T.region ?_
 refine rs rfl rfl (ok_moveb (c := false) (.inr rfl) rfl) ?_
 refine ro_nil ?_
 refine keepK hK1 [0, 1] (by dsimp) (by dsimp) ?_
 refine T.seq fun K2 hK2 => ?_
 refine T.region ?_
 refine rs rfl rfl (ok_move (.inl rfl)) ?_
 refine rs rfl rfl (ok_move (.inl rfl)) ?_
 refine ro rfl rfl (ok_call rfl rfl rfl ((index_ok l x hl).plain (by simp [renL, AV.ren, renL_ints]) rfl)) ?_
 refine ro rfl rfl (OpOk.step ((ok_binOp rfl ti_int rfl).eq (x' := .b (decide (x ∈ l))) (by
  have e : decide (fIdx (fun y => decide (x = y)) l ≥ 0) = decide (x ∈ l) := by
    refine decide_eq_decide.2 ((fIdx_iff _ l).trans ⟨?_, fun h => ⟨x, h, by simp⟩⟩)
    rintro ⟨y, hy, h⟩
    have : x = y := by simpa using h
    exact this ▸ hy
  exact congrArg AV.b e) rfl)) ?_
 refine rs rfl rfl (ok_move (.inr rfl)) ?_
 refine ro_nil ?_
 refine keepK hK2 [4] (by dsimp) (by dsimp) ?_
 refine T.ret (hQ _ _ _ rfl ?_).1 -- ret 1
 exact TEnt.toH rfl ⟨rfl, trivial⟩
theorem indexF_ok (l : List Int) (f : FuncId) (p : Int → Bool) (hf : ∀ y, CSpec Tryz.prog f [] [.int y] [] (.b (p y))) (hl : l.length ≤ 140737488355328) : CSpec Tryz.prog 115 [] [.fz 1 (ints .i64 l), .fn (.func f) [] []] [] (.int (fIdx p l)) := by
 refine CSpec.body Tryz.func115 rfl rfl rfl rfl rfl fun Q hQ => ?_
 refine T.seq fun K1 hK1 => ?_
 refine T.region ?_
 refine rs rfl rfl (ok_move (.inr rfl)) ?_
 refine ro_nil ?_
 refine keepK hK1 [0, 1] (by dsimp) (by dsimp) ?_
 refine T.seq fun K2 hK2 => ?_
 refine T.seq fun K3 hK3 => ?_
 refine T.region ?_
 refine rs rfl rfl (ok_move (.inl rfl)) ?_
 refine rs rfl rfl (ok_len' rfl rfl ti_Lint rfl (by first | exact ints_length _ _ | exact rowsA_length _ _ | exact Cms_len _ | exact mapLen _ | rfl)) ?_
 refine rs rfl rfl (ok_move (.inl rfl)) ?_
 refine ro_nil ?_
 refine keepK hK3 [0, 1, 7, 8] (by dsimp) (by dsimp) ?_
 refine T.block ?_
 refine T.loopI (ι := Nat) (fun i => i ≤ l.length ∧ ∀ y ∈ l.take i, p y = false) (fun i => l.length - i) (fun i => ([(0, .fz 1 (ints .i64 l)), (1, .fn (.func f) [] []), (7, .int l.length), (8, .int i)], [])) 0 ⟨Nat.zero_le _, fun y hy => by simp at hy⟩ (TEnt.toH rfl ⟨rfl, rfl, rfl, rfl, trivial⟩) (fun i hi => ?_) -- loop 1
 obtain ⟨hil, hno⟩ := hi
 refine T.seq fun K4 hK4 => ?_
 refine T.region ?_
 refine rs rfl rfl (ok_binOp rfl ti_int rfl) ?_
 refine ro_nil ?_
 refine keepK hK4 [0, 1, 7, 8, 9] (by dsimp) (by dsimp) ?_
 refine T.seq fun K5 hK5 => ?_
 refine T.cond rfl (fun hc => ?_) (fun hc => ?_) -- cond 1
 ·(try simp only [dE] at hc)
  obtain ⟨y, hy⟩ : ∃ y, l[i]? = some y := ⟨_, List.getElem?_eq_getElem (by omega)⟩
  refine T.skip ?_
  refine keepK hK5 [0, 1, 7, 8] (by dsimp) (by dsimp) ?_
  refine T.seq fun K6 hK6 => ?_
  refine T.block ?_
  refine T.seq fun K7 hK7 => ?_
  refine T.region ?_
  refine rs rfl rfl (ok_move (.inl rfl)) ?_
  refine rs rfl rfl (ok_move (.inr rfl)) ?_
  refine ro_nil ?_
  refine keepK hK7 [0, 1, 5, 7, 8] (by dsimp) (by dsimp) ?_
  refine T.seq fun K8 hK8 => ?_
  refine T.region ?_
  refine rs rfl rfl (ok_move (.inl rfl)) ?_
  refine rs rfl rfl (ok_move (.inl rfl)) ?_
  refine rs rfl rfl (ok_move (.inl rfl)) ?_
  refine rs rfl rfl (by exact ok_index_ints rfl ti_Lint rfl ti_int rfl rfl rfl (by omega) (by simpa using hy)) ?_
  refine rs rfl rfl (ok_load rfl ti_int rfl rfl) ?_
  refine ro rfl rfl (ok_call rfl rfl rfl ((hf y).plain rfl rfl)) ?_
  refine ro_nil ?_
  refine keepK hK8 [0, 1, 5, 7, 8, 16] (by dsimp) (by dsimp) ?_
  refine T.cond rfl (fun hc => ?_) (fun hc => ?_) -- cond 2
  ·(try simp only [dE] at hc)
   rw [fIdx_hit hy hc hno] at hQ
   refine T.seq fun K9 hK9 => ?_
   refine T.region ?_
   refine rs rfl rfl (ok_move (.inl rfl)) ?_
   refine rs rfl rfl (ok_move (.inr rfl)) ?_
   refine ro_nil ?_
   refine keepK hK9 [4] (by dsimp) (by dsimp) ?_
   refine T.ret (hQ _ _ _ rfl ?_).1 -- ret 1
   exact TEnt.toH rfl ⟨rfl, trivial⟩
  ·(try simp only [dE] at hc)
   refine T.skip ?_
   refine keepK hK6 [0, 1, 7, 8] (by dsimp) (by dsimp) ?_
   refine T.region ?_
   refine rs rfl rfl (ok_add64 rfl ti_int rfl rfl (by omega) (by omega)) ?_
   refine rs rfl rfl (ok_move (.inl rfl)) ?_
   refine ro_nil ?_
   exact ⟨i + 1, ⟨by omega, take_snoc_all hy hno hc⟩, by omega, TEnt.toH rfl ⟨rfl, rfl, rfl, rfl, trivial⟩⟩
 ·(try simp only [dE] at hc)
  have hin : i = l.length := by omega
  rw [hin, List.take_length] at hno
  rw [fIdx_none hno] at hQ
  refine T.exit ?_
  refine keepK hK2 [] (by dsimp) (by dsimp) ?_
  refine T.seq fun K10 hK10 => ?_
  refine T.region ?_
  refine rs rfl rfl (ok_move (.inr rfl)) ?_
  refine ro_nil ?_
  refine keepK hK10 [4] (by dsimp) (by dsimp) ?_
  refine T.ret (hQ _ _ _ rfl ?_).1 -- ret 2
  exact TEnt.toH rfl ⟨rfl, trivial⟩
theorem odd1_ok (y : Int) : CSpec Tryz.prog 116 [] [.int y] [] (.b (y != 0)) := by
 refine CSpec.body Tryz.func116 rfl rfl rfl rfl rfl fun Q hQ => ?_
 refine T.seq fun K1 hK1 => ?_
 refine T.region ?_
 refine rs rfl rfl (ok_moveb (c := false) (.inr rfl) rfl) ?_
 refine ro_nil ?_
 refine keepK hK1 [0] (by dsimp) (by dsimp) ?_
 refine T.seq fun K2 hK2 => ?_
 refine T.region ?_
 refine rs rfl rfl (ok_move (.inl rfl)) ?_
 refine rs rfl rfl (ok_binOp rfl ti_int rfl) ?_
 refine rs rfl rfl (ok_move (.inr rfl)) ?_
 refine ro_nil ?_
 refine keepK hK2 [2] (by dsimp) (by dsimp) ?_
 refine T.ret (hQ _ _ _ rfl ?_).1 -- ret 1
 exact TEnt.toH rfl ⟨rfl, trivial⟩
def oddP (y : Int) : Bool := y != 0
/-- The member that is not whole. -/
def oddS (st : List Int) : Int × Int × Bool := if fIdx oddP st < 0 then (0, 0, false) else (fIdx oddP st, st.getD (fIdx oddP st).toNat 0, true)
theorem sodd_ok (s : St) (hl : s.st.length ≤ 140737488355328) : CSpec Tryz.prog 104 [] [.agg (StC s)] [] (.tup [.int (oddS s.st).1, .int (oddS s.st).2.1, .b (oddS s.st).2.2]) := by
 have hbd := fIdx_bd oddP s.st
 refine CSpec.body Tryz.func104 rfl rfl rfl rfl rfl fun Q hQ => ?_
 refine T.seq fun K1 hK1 => ?_
 refine T.region ?_
 refine rs rfl rfl (ok_box (n := 15) rfl rfl (by decide)) ?_
 refine rs rfl rfl (ok_move (.inr rfl)) ?_
 refine rs rfl rfl (ok_move (.inr rfl)) ?_
 refine rs rfl rfl (ok_moveb (c := false) (.inr rfl) rfl) ?_
 refine ro_nil ?_
 refine keepK hK1 [1] (by dsimp) (by dsimp) ?_
 refine T.seq fun K2 hK2 => ?_
 refine T.region ?_
 refine rs rfl rfl (ok_fieldAddr rfl ti_api_State rfl rfl ti_Lint (by decide) rfl) ?_
 refine rs rfl rfl (ok_load rfl ti_Lint rfl rfl) ?_
 refine ro rfl rfl (ok_call rfl rfl rfl ((indexF_ok s.st 116 oddP (fun y => odd1_ok y) hl).plain (by simp [renL, AV.ren, renL_ints]) rfl)) ?_
 refine rs rfl rfl (ok_move (.inr rfl)) ?_
 refine ro_nil ?_
 refine keepK hK2 [1, 2] (by dsimp) (by dsimp) ?_
 refine T.seq fun K3 hK3 => ?_
 refine T.seq fun K4 hK4 => ?_
 refine T.region ?_
 refine rs rfl rfl (ok_move (.inl rfl)) ?_
 refine rs rfl rfl (ok_binOp rfl ti_int rfl) ?_
 refine ro_nil ?_
 refine keepK hK4 [1, 2, 9] (by dsimp) (by dsimp) ?_
 refine T.cond rfl (fun hc => ?_) (fun hc => ?_) -- cond 1
 ·(try simp only [dE] at hc)
  have e : oddS s.st = (0, 0, false) := if_pos hc
  rw [e] at hQ
  refine T.seq fun K5 hK5 => ?_
  refine T.region ?_
  refine rs rfl rfl (ok_move (.inr rfl)) ?_
  refine rs rfl rfl (ok_move (.inr rfl)) ?_
  refine rs rfl rfl (ok_moveb (c := false) (.inr rfl) rfl) ?_
  refine ro_nil ?_
  refine keepK hK5 [2, 3, 4] (by dsimp) (by dsimp) ?_
  refine T.ret (hQ _ _ _ rfl ?_).1 -- ret 1
  exact TEnt.fin [] (by decide) (by simp) rfl ⟨rfl, trivial⟩
 ·(try simp only [dE] at hc)
  have e : oddS s.st = (fIdx oddP s.st, s.st.getD (fIdx oddP s.st).toNat 0, true) := if_neg (by omega)
  rw [e] at hQ
  obtain ⟨x, hx⟩ : ∃ x, s.st[(fIdx oddP s.st).toNat]? = some x := ⟨_, List.getElem?_eq_getElem (by omega)⟩
  have hxd : s.st.getD (fIdx oddP s.st).toNat 0 = x := by rw [List.getD_eq_getElem?_getD, hx]; rfl
  rw [hxd] at hQ
  refine T.skip ?_
  refine keepK hK3 [1, 2] (by dsimp) (by dsimp) ?_
  refine T.seq fun K6 hK6 => ?_
  refine T.drawH mixed [] ?_
  refine any_take 0 rfl (by first | rfl | decide +kernel) rfl (HeldL.refl _) (fun H' hH => OpOk.step (ok_move (.inl rfl))) ?_
  refine any_take 1 rfl (by first | rfl | decide +kernel) rfl (HeldL.refl _) (fun H' hH => OpOk.step (ok_fieldAddr rfl ti_api_State rfl rfl ti_Lint (by decide) rfl)) ?_
  refine any_take 2 rfl (by first | rfl | decide +kernel) rfl (HeldL.refl _) (fun H' hH => OpOk.step (ok_load rfl ti_Lint (locA_held hH rfl) rfl)) ?_
  refine any_take 3 rfl (by first | rfl | decide +kernel) rfl (HeldL.refl _) (fun H' hH => OpOk.step (ok_move (.inl rfl))) ?_
  refine any_take 4 rfl (by first | rfl | decide +kernel) rfl (HeldL.refl _) (fun H' hH => OpOk.step (by exact ok_index_ints rfl ti_Lint rfl ti_int rfl rfl rfl (by omega) hx)) ?_
  refine any_take 5 rfl (by first | rfl | decide +kernel) rfl (HeldL.refl _) (fun H' hH => OpOk.step (ok_load rfl ti_int (locA_held hH rfl) rfl)) ?_
  refine any_take 6 rfl (by first | rfl | decide +kernel) rfl (HeldL.refl _) (fun H' hH => OpOk.step (ok_move (.inr rfl))) ?_
  refine any_take 7 rfl (by first | rfl | decide +kernel) rfl (HeldL.refl _) (fun H' hH => OpOk.step (ok_move (.inr rfl))) ?_
  refine any_take 8 rfl (by first | rfl | decide +kernel) rfl (HeldL.refl _) (fun H' hH => OpOk.step (ok_moveb (c := true) (.inr rfl) rfl)) ?_
  refine any_done rfl ?_
  refine keepK hK6 [2, 3, 4] (by dsimp) (by dsimp) ?_
  refine T.ret (hQ _ _ _ rfl ?_).1 -- ret 2
  exact TEnt.fin [] (by decide) (by simp) rfl ⟨rfl, trivial⟩
end Go.Proofs.YtjklgbafnfoolaaGreat.AmF
