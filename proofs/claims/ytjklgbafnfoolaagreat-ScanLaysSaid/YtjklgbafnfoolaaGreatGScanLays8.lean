/- Walks over the abstract machine: states of the log as bytes, as the document has it. -/
import Derived.Test.YtjklgbafnfoolaaGreatGScanLays7
namespace Go.Proofs.YtjklgbafnfoolaaGreat.AmF
open Go Go.AM
set_option maxRecDepth 100000
set_option maxHeartbeats 4000000
set_option linter.unusedSimpArgs false
set_option linter.unusedVariables false
attribute [local simp] tkeep tget tput ev cav argsTM pickA normT putA splice AV.cells ints_length rowsA_length Prs_len Zns_len
def flagB (f : Bool) : List Int := [if f = true then 1 else 0]
def encP (p : Pr) : List Int := enc p.w 8 ++ (enc p.b.length 8 ++ p.b)
def encPs : List Pr → List Int
  | [] => []
  | p :: l => encP p ++ encPs l
theorem encPs_append (a b : List Pr) : encPs (a ++ b) = encPs a ++ encPs b := by
  induction a with
  | nil => rfl
  | cons p a ih => simp [encPs, ih]
def headZ (z : Zn) : List Int := enc z.gen 8 ++ (enc z.slot 8 ++ (flagB z.full ++ (enc z.w 8 ++ (flagB z.whole ++ enc z.pars.length 8))))
def encZ (z : Zn) : List Int := headZ z ++ encPs z.pars
def encZs : List Zn → List Int
  | [] => []
  | z :: l => encZ z ++ encZs l
theorem encZs_append (a b : List Zn) : encZs (a ++ b) = encZs a ++ encZs b := by
  induction a with
  | nil => rfl
  | cons p a ih => simp [encZs, ih]
def headS (s : St) : List Int := encs s.c.l ++ (enc s.ep 8 ++ enc s.sq 8)
/-- A state as bytes. -/
def encSt (s : St) : List Int := headS s ++ (encs s.st ++ encZs s.zs)
def putS (s : St) : List Int := if RS s then encSt s else []
theorem putS_ok {s : St} (h : RS s) : putS s = encSt s := if_pos h
theorem putS_bad {s : St} (h : ¬ RS s) : putS s = [] := if_neg h
theorem headZ_len (z : Zn) : (headZ z).length = 34 := by simp [headZ, flagB, enc_len]
theorem headS_len (s : St) : (headS s).length = 104 := by simp [headS, enc_len, encs_len, Cf.l]
theorem encPs_take (l : List Pr) (i : Nat) : (encPs (l.take i)).length ≤ (encPs l).length := by
  have : encPs l = encPs (l.take i) ++ encPs (l.drop i) := by rw [← encPs_append, List.take_append_drop]
  rw [this, List.length_append]; omega
theorem encZs_take (l : List Zn) (i : Nat) : (encZs (l.take i)).length ≤ (encZs l).length := by
  have : encZs l = encZs (l.take i) ++ encZs (l.drop i) := by rw [← encZs_append, List.take_append_drop]
  rw [this, List.length_append]; omega
theorem encZs_snoc {l : List Zn} {i : Nat} {z : Zn} (h : l[i]? = some z) : encZs (l.take (i + 1)) = encZs (l.take i) ++ encZ z := by
  rw [take_succ_get h, encZs_append]; simp [encZs]
theorem encPs_snoc {l : List Pr} {i : Nat} {p : Pr} (h : l[i]? = some p) : encPs (l.take (i + 1)) = encPs (l.take i) ++ encP p := by
  rw [take_succ_get h, encPs_append]; simp [encPs]
theorem encs_snoc' {l : List Int} {i : Nat} {v : Int} (h : l[i]? = some v) : encs (l.take (i + 1)) = encs (l.take i) ++ enc v 8 := by
  rw [take_succ_get h, encs_snoc]
theorem encs_take (l : List Int) (i : Nat) : (encs (l.take i)).length ≤ (encs l).length := by
  rw [encs_len, encs_len, List.length_take]; omega
def BsB (l : List Int) : Blk := ⟨1, true, ints .u8 l⟩
theorem BsB_ren (ρ : Nat → Option Nat) (l : List Int) : Blk.ren ρ (BsB l) = BsB l := by simp [BsB, Blk.ren, renL_ints]
theorem heap1 {a a' : Option Blk} (h1 : a = a') : [a] = [a'] := by subst h1; rfl
theorem rflagput_new (f : Bool) : CSpec Tryz.prog 54 [] [.b f] [some (BsB (flagB f))] (.sl 0 0 1) := by
 refine CSpec.body Tryz.func54 rfl rfl rfl rfl rfl fun Q hQ => ?_
 refine T.seq fun K1 hK1 => ?_
 refine T.region ?_
 refine rs rfl rfl (ok_move (.inr rfl)) ?_
 refine ro_nil ?_
 refine keepK hK1 [0] (by dsimp) (by dsimp) ?_
 refine T.seq fun K2 hK2 => ?_
 refine T.seq fun K3 hK3 => ?_
 refine T.region ?_
 refine rs rfl rfl (ok_move (.inl rfl)) ?_
 refine ro_nil ?_
 refine keepK hK3 [3] (by dsimp) (by dsimp) ?_
 refine T.cond rfl (fun hc => ?_) (fun hc => ?_) -- cond 1
 ·(try simp only [dE] at hc)
  subst hc
  refine T.seq fun K4 hK4 => ?_
  refine T.region ?_
  refine rs rfl rfl (ok_buildSlice (n := 1) (ps := #[(0, .const (.int .u8 (1)))]) rfl ti_Luint8 rfl ti_uint8 (by decide) rfl rfl (by decide) rfl rfl rfl) ?_
  refine rs rfl rfl (ok_move (.inr rfl)) ?_
  refine ro_nil ?_
  refine keepK hK4 [2] (by dsimp) (by dsimp) ?_
  refine T.ret (hQ _ _ _ rfl ?_).1 -- ret 1
  exact TEnt.toH rfl ⟨rfl, trivial⟩
 ·(try simp only [dE] at hc)
  subst hc
  refine T.skip ?_
  refine keepK hK2 [] (by dsimp) (by dsimp) ?_
  refine T.seq fun K5 hK5 => ?_
  refine T.region ?_
  refine rs rfl rfl (ok_buildSlice (n := 1) (ps := #[(0, .const (.int .u8 (0)))]) rfl ti_Luint8 rfl ti_uint8 (by decide) rfl rfl (by decide) rfl rfl rfl) ?_
  refine rs rfl rfl (ok_move (.inr rfl)) ?_
  refine ro_nil ?_
  refine keepK hK5 [2] (by dsimp) (by dsimp) ?_
  refine T.ret (hQ _ _ _ rfl ?_).1 -- ret 2
  exact TEnt.toH rfl ⟨rfl, trivial⟩
theorem rflagput_frz (f : Bool) : CSpec Tryz.prog 54 [] [.b f] [] (.fz 1 (ints .u8 (flagB f))) := (rflagput_new f).frz rfl (renL_ints _ _ _)
theorem rput_call {c : Cf} {H : Heap} : CallOk Tryz.prog 53 H [.agg (CC c)] (.sl H.length 0 (encs c.l).length) (H ++ [some (BsB (encs c.l))]) :=
  (rput_new c).fresh (by show renL _ [.agg (CC c)] = _; simp [renL, AV.ren, CC_ren]) (by simp [AV.ren]) (by show [some (Blk.ren _ (BsB _))] = _; rw [BsB_ren])
theorem rput11_new (s : St) (hrs : RS s) (hT : (encSt s).length ≤ 1000000) (hsl : s.st.length ≤ 1000000) (hzl : s.zs.length ≤ 1000000) : CSpec Tryz.prog 24 [] [.agg (StC s)] [some (BsB (encSt s))] (.sl 0 0 (encSt s).length) := by
 have hl0 := headS_len s
 have hT0 : (encSt s).length = (headS s).length + ((encs s.st).length + (encZs s.zs).length) := by rw [encSt, List.length_append, List.length_append]
 refine CSpec.body Tryz.func24 rfl rfl rfl rfl rfl fun Q hQ => ?_
 refine T.seq fun K1 hK1 => ?_
 refine T.region ?_
 refine rs rfl rfl (ok_box (n := 15) rfl rfl (by decide)) ?_
 refine rs rfl rfl (ok_move (.inr rfl)) ?_
 refine ro_nil ?_
 refine keepK hK1 [1] (by dsimp) (by dsimp) ?_
 refine T.seq fun K2 hK2 => ?_
 refine T.seq fun K3 hK3 => ?_
 refine T.region ?_
 refine rs rfl rfl (ok_load rfl ti_api_State rfl rfl) ?_
 refine ro rfl rfl (ok_call rfl rfl rfl ((rsright_ok s (by omega) (by omega)).plain (by simp [renL, AV.ren, StC_take, StC_ren]) rfl)) ?_
 refine rs rfl rfl (OpOk.bool (d := false) (ok_unOp rfl rfl) ((by simp [hrs]))) ?_
 refine ro_nil ?_
 refine keepK hK3 [1, 10] (by dsimp) (by dsimp) ?_
 refine T.cond_false rfl ?_
 refine T.skip ?_
 refine keepK hK2 [1] (by dsimp) (by dsimp) ?_
 refine T.seq fun K4 hK4 => ?_
 refine T.draw mixed (SH [] (HeldL ([some (StB s)]))) ?_
 refine any_take 0 rfl (by first | rfl | decide +kernel) rfl (by first | (simp [HeldL]; done) | (simp only [dH]; (repeat' first | trivial | rfl | constructor))) (fun H' hH => OpOk.step (ok_fieldAddr rfl ti_api_State rfl rfl ti_api_Conf (by decide) rfl)) ?_
 refine any_take 1 rfl (by first | rfl | decide +kernel) rfl (by first | (simp [HeldL]; done) | (simp only [dH]; (repeat' first | trivial | rfl | constructor))) (fun H' hH => OpOk.step (ok_load rfl ti_api_Conf (locA_held hH rfl) rfl)) ?_
 refine any_take 3 rfl (by first | rfl | decide +kernel) rfl (by first | (simp [HeldL]; done) | (simp only [dH]; (repeat' first | trivial | rfl | constructor))) (fun H' hH => OpOk.step (ok_fieldAddr rfl ti_api_State rfl rfl ti_int (by decide) rfl)) ?_
 refine any_take 4 rfl (by first | rfl | decide +kernel) rfl (by first | (simp [HeldL]; done) | (simp only [dH]; (repeat' first | trivial | rfl | constructor))) (fun H' hH => OpOk.step (ok_load rfl ti_int (locA_held hH rfl) rfl)) ?_
 refine any_take 7 rfl (by first | rfl | decide +kernel) rfl (by first | (simp [HeldL]; done) | (simp only [dH]; (repeat' first | trivial | rfl | constructor))) (fun H' hH => OpOk.step (ok_fieldAddr rfl ti_api_State rfl rfl ti_int (by decide) rfl)) ?_
 refine any_take 8 rfl (by first | rfl | decide +kernel) rfl (by first | (simp [HeldL]; done) | (simp only [dH]; (repeat' first | trivial | rfl | constructor))) (fun H' hH => OpOk.step (ok_load rfl ti_int (locA_held hH rfl) rfl)) ?_
 refine any_one 2 rfl (by first | rfl | decide +kernel) rfl rfl (ok_call rfl rfl rfl (rput_call)) (.inr (by first | (simp [HeldL]; done) | (simp only [dH]; (repeat' first | trivial | rfl | constructor)))) ?_
 refine any_one 5 rfl (by first | rfl | decide +kernel) rfl rfl (ok_call rfl rfl rfl ((rint_frz s.ep).plain rfl (by simp [AV.ren, renL_ints]))) (.inr (by first | (simp [HeldL]; done) | (simp only [dH]; (repeat' first | trivial | rfl | constructor)))) ?_
 refine any_one 6 rfl (by first | rfl | decide +kernel) rfl rfl (OpOk.step (by exact ok_append_ints (k := .u8) (xs := encs s.c.l) (ys := enc s.ep 8) rfl ti_Luint8 rfl ti_uint8 rfl (by decide) rfl ti_Luint8 (by simp) rfl rfl rfl rfl rfl rfl rfl rfl rfl (by simp [enc_len, encs_len, Cf.l]))) (.inr (by first | (simp [HeldL]; done) | (simp only [dH]; (repeat' first | trivial | rfl | constructor)))) ?_
 refine any_one 9 rfl (by first | rfl | decide +kernel) rfl rfl (ok_call rfl rfl rfl ((rint_frz s.sq).plain rfl (by simp [AV.ren, renL_ints]))) (.inr (by first | (simp [HeldL]; done) | (simp only [dH]; (repeat' first | trivial | rfl | constructor)))) ?_
 refine any_one 10 rfl (by first | rfl | decide +kernel) rfl rfl (OpOk.step (by exact ok_append_ints (k := .u8) (xs := encs s.c.l ++ enc s.ep 8) (ys := enc s.sq 8) rfl ti_Luint8 rfl ti_uint8 rfl (by decide) rfl ti_Luint8 (by simp) rfl rfl rfl rfl rfl rfl rfl rfl rfl (by simp [enc_len, encs_len, Cf.l]))) (.inr (by first | (simp [HeldL]; done) | (simp only [dH]; (repeat' first | trivial | rfl | constructor)))) ?_
 refine any_take 11 rfl (by first | rfl | decide +kernel) rfl (by first | (simp [HeldL]; done) | (simp only [dH]; (repeat' first | trivial | rfl | constructor))) (fun H' hH => OpOk.step (ok_move (.inr rfl))) ?_
 refine any_done rfl ?_
 refine keepK hK4 [1, 3] (by dsimp) (by dsimp) ?_
 refine T.seq fun K5 hK5 => ?_
 refine T.seq fun K6 hK6 => ?_
 refine T.region ?_
 refine rs rfl rfl (ok_move (.inr rfl)) ?_
 refine ro_nil ?_
 refine keepK hK6 [1, 3, 4] (by dsimp) (by dsimp) ?_
 refine T.block ?_
 refine T.loopI (ι := Nat) (fun i => i ≤ s.st.length) (fun i => s.st.length - i) (fun i => ([(1, .ref 0 0 0), (3, .sl 1 0 (headS s ++ encs (s.st.take i)).length), (4, .int i)], [some (StB s), some (BsB (headS s ++ encs (s.st.take i)))])) 0 (Nat.zero_le _) (TEnt.fin [0, 3] (by decide) (by simp) (by show [some (Blk.ren _ (StB s)), some (Blk.ren _ (BsB (encs s.c.l ++ enc s.ep 8 ++ enc s.sq 8)))] = _; rw [StB_ren, BsB_ren, List.append_assoc]; simp [encs, headS]) ⟨rfl, by rw [show headS s ++ encs (s.st.take 0) = encs s.c.l ++ enc s.ep 8 ++ enc s.sq 8 by simp [encs, headS]]; rfl, rfl, trivial⟩) (fun i hi => ?_) -- loop 1
 have hti := encs_take s.st i
 refine T.seq fun K7 hK7 => ?_
 refine T.seq fun K8 hK8 => ?_
 refine T.region ?_
 refine rs rfl rfl (ok_move (.inl rfl)) ?_
 refine rs rfl rfl (ok_fieldAddr rfl ti_api_State rfl rfl ti_Lint (by decide) rfl) ?_
 refine rs rfl rfl (ok_load rfl ti_Lint rfl rfl) ?_
 refine rs rfl rfl (ok_len' rfl rfl ti_Lint rfl (by first | exact ints_length _ _ | exact rowsA_length _ _ | exact Cms_len _ | exact mapLen _ | rfl)) ?_
 refine rs rfl rfl (ok_binOp rfl ti_int rfl) ?_
 refine ro_nil ?_
 refine keepK hK8 [1, 3, 4, 26] (by dsimp) (by dsimp) ?_
 refine T.cond rfl (fun hc => ?_) (fun hc => ?_) -- cond 1
 ·(try simp only [dE] at hc)
  try rw [ints_length] at hc
  obtain ⟨v, hv⟩ : ∃ v, s.st[i]? = some v := ⟨_, List.getElem?_eq_getElem (by omega)⟩
  have hsn : headS s ++ encs (s.st.take (i + 1)) = headS s ++ encs (s.st.take i) ++ enc v 8 := by rw [encs_snoc' hv, List.append_assoc]
  refine T.skip ?_
  refine keepK hK7 [1, 3, 4] (by dsimp) (by dsimp) ?_
  refine T.seq fun K9 hK9 => ?_
  refine T.block ?_
  refine T.region ?_
  refine rs rfl rfl (ok_move (.inl rfl)) ?_
  refine rs rfl rfl (ok_fieldAddr rfl ti_api_State rfl rfl ti_Lint (by decide) rfl) ?_
  refine rs rfl rfl (ok_load rfl ti_Lint rfl rfl) ?_
  refine rs rfl rfl (ok_move (.inl rfl)) ?_
  refine rs rfl rfl (by exact ok_index_ints rfl ti_Lint rfl ti_int rfl rfl rfl (by omega) (by simpa using hv)) ?_
  refine rs rfl rfl (ok_load rfl ti_int rfl rfl) ?_
  refine ro rfl rfl (ok_call rfl rfl rfl ((rint_frz v).plain rfl (by simp [AV.ren, renL_ints]))) ?_
  refine rs rfl rfl (by exact ok_append_ints (k := .u8) (xs := headS s ++ encs (s.st.take i)) (ys := enc v 8) rfl ti_Luint8 rfl ti_uint8 rfl (by decide) rfl ti_Luint8 (by simp) rfl rfl rfl rfl rfl rfl rfl rfl rfl (by simp [enc_len]; omega)) ?_
  refine rs rfl rfl (ok_move (.inr rfl)) ?_
  refine ro_nil ?_
  refine keepK hK9 [1, 3, 4] (by dsimp) (by dsimp) ?_
  refine T.region ?_
  refine rs rfl rfl (ok_move (.inl rfl)) ?_
  refine rs rfl rfl (ok_add64 rfl ti_int rfl rfl (by omega) (by omega)) ?_
  refine rs rfl rfl (ok_move (.inr rfl)) ?_
  refine ro_nil ?_
  exact ⟨i + 1, by omega, by omega, TEnt.fin [0, 2] (by decide) (by simp) (by show [some (Blk.ren _ (StB s)), some (Blk.ren _ (BsB (headS s ++ encs (s.st.take i) ++ enc v 8)))] = _; rw [StB_ren, BsB_ren, hsn]) ⟨rfl, by rw [hsn]; rfl, rfl, trivial⟩⟩
 ·(try simp only [dE] at hc)
  try rw [ints_length] at hc
  have hin : i = s.st.length := by omega
  subst hin
  have htk : s.st.take s.st.length = s.st := List.take_length ..
  obtain ⟨A, hA⟩ : ∃ A, headS s ++ encs s.st = A := ⟨_, rfl⟩
  have hAl : A.length = (headS s).length + (encs s.st).length := by rw [← hA, List.length_append]
  refine T.exit ?_
  refine keepK hK5 [1, 3] (by dsimp) (by dsimp) ?_
  refine T.seq fun K10 hK10 => ?_
  refine T.seq fun K11 hK11 => ?_
  refine T.region ?_
  refine rs rfl rfl (ok_move (.inr rfl)) ?_
  refine ro_nil ?_
  refine keepK hK11 [1, 3, 5] (by dsimp) (by dsimp) ?_
  refine T.block ?_
  refine T.loopI (ι := Nat) (fun i => i ≤ s.zs.length) (fun i => s.zs.length - i) (fun i => ([(1, .ref 0 0 0), (3, .sl 1 0 (A ++ encZs (s.zs.take i)).length), (5, .int i)], [some (StB s), some (BsB (A ++ encZs (s.zs.take i)))])) 0 (Nat.zero_le _) (TEnt.toH (by rw [htk, hA]; simp [encZs]) ⟨rfl, by rw [htk, hA]; simp [encZs], rfl, trivial⟩) (fun i hi => ?_) -- loop 2
  have hzi := encZs_take s.zs i
  refine T.seq fun K12 hK12 => ?_
  refine T.seq fun K13 hK13 => ?_
  refine T.region ?_
  refine rs rfl rfl (ok_move (.inl rfl)) ?_
  refine rs rfl rfl (ok_fieldAddr rfl ti_api_State rfl rfl ti_Lapi_Zone (by decide) rfl) ?_
  refine rs rfl rfl (ok_load rfl ti_Lapi_Zone rfl rfl) ?_
  refine rs rfl rfl (ok_len' rfl rfl ti_Lapi_Zone rfl (by first | exact ints_length _ _ | exact rowsA_length _ _ | exact Cms_len _ | exact mapLen _ | rfl)) ?_
  refine rs rfl rfl (ok_binOp rfl ti_int rfl) ?_
  refine ro_nil ?_
  refine keepK hK13 [1, 3, 5, 41] (by dsimp) (by dsimp) ?_
  refine T.cond rfl (fun hc => ?_) (fun hc => ?_) -- cond 2
  ·(try simp only [dE] at hc)
   try rw [Zns_len] at hc
   obtain ⟨w, hw⟩ : ∃ w, w = i := ⟨_, rfl⟩
   subst hw
   obtain ⟨z, hz⟩ : ∃ z, s.zs[w]? = some z := ⟨_, List.getElem?_eq_getElem (by omega)⟩
   have hzs := encZs_snoc hz
   have hzi1 := encZs_take s.zs (w + 1)
   obtain ⟨B, hBq⟩ : ∃ B, A ++ encZs (s.zs.take w) = B := ⟨_, rfl⟩
   have hBl : B.length = A.length + (encZs (s.zs.take w)).length := by rw [← hBq, List.length_append]
   have hzl1 : (encZs (s.zs.take w)).length + ((headZ z).length + (encPs z.pars).length) = (encZs (s.zs.take (w + 1))).length := by rw [hzs, List.length_append, encZ, List.length_append]
   have hhz := headZ_len z
   have hB1 : B.length + 34 + (encPs z.pars).length ≤ 1000000 := by omega
   have hrz := (hrs.2.2.2.2.2.2.2.1 z (List.mem_of_getElem? hz)).2.2.2.2.2.1
   rw [hBq]
   refine T.skip ?_
   refine keepK hK12 [1, 3, 5] (by dsimp) (by dsimp) ?_
   refine T.seq fun K14 hK14 => ?_
   refine T.block ?_
   refine T.seq fun K15 hK15 => ?_
   refine T.region ?_
   refine rs rfl rfl (ok_fieldAddr rfl ti_api_State rfl rfl ti_Lapi_Zone (by decide) rfl) ?_
   refine rs rfl rfl (ok_load rfl ti_Lapi_Zone rfl rfl) ?_
   refine rs rfl rfl (ok_move (.inl rfl)) ?_
   refine rs rfl rfl (by exact ok_index_map (F := ZnC) rfl ti_Lapi_Zone rfl ti_api_Zone rfl rfl rfl hz (by simp [ZnC])) ?_
   refine rs rfl rfl (ok_load rfl ti_api_Zone rfl rfl) ?_
   refine rs rfl rfl (ok_alloc rfl ti_api_Zone rfl (by decide)) ?_
   refine rs rfl rfl (ok_store rfl ti_api_Zone (by decide) rfl rfl rfl rfl rfl (by first | exact Nat.le_of_ble_eq_true rfl | simp) (by first | exact .inl ⟨rfl, rfl⟩ | exact .inr rfl)) ?_
   refine ro_nil ?_
   refine keepK hK15 [1, 3, 5, 6] (by dsimp) (by dsimp) ?_
   refine T.seq fun K16 hK16 => ?_
   refine T.ent (TEnt.toH (tm' := [(1, .ref 0 0 0), (3, .sl 1 0 B.length), (5, .int w), (6, .ref 2 0 0)]) (H' := [some (StB s), some (BsB B), some (ZnB z)]) rfl ⟨rfl, rfl, rfl, rfl, trivial⟩) ?_
   refine T.draw mixed (SH [] (HeldL ([some (StB s), none, some (ZnB z)]))) ?_
   refine any_take 0 rfl (by first | rfl | decide +kernel) rfl (by first | (simp [HeldL]; done) | (simp only [dH]; (repeat' first | trivial | rfl | constructor))) (fun H' hH => OpOk.step (ok_move (.inl rfl))) ?_
   refine any_take 1 rfl (by first | rfl | decide +kernel) rfl (by first | (simp [HeldL]; done) | (simp only [dH]; (repeat' first | trivial | rfl | constructor))) (fun H' hH => OpOk.step (ok_fieldAddr rfl ti_api_Zone rfl rfl ti_int (by decide) rfl)) ?_
   refine any_take 2 rfl (by first | rfl | decide +kernel) rfl (by first | (simp [HeldL]; done) | (simp only [dH]; (repeat' first | trivial | rfl | constructor))) (fun H' hH => OpOk.step (ok_load rfl ti_int (locA_held hH rfl) rfl)) ?_
   refine any_take 5 rfl (by first | rfl | decide +kernel) rfl (by first | (simp [HeldL]; done) | (simp only [dH]; (repeat' first | trivial | rfl | constructor))) (fun H' hH => OpOk.step (ok_fieldAddr rfl ti_api_Zone rfl rfl ti_int (by decide) rfl)) ?_
   refine any_take 6 rfl (by first | rfl | decide +kernel) rfl (by first | (simp [HeldL]; done) | (simp only [dH]; (repeat' first | trivial | rfl | constructor))) (fun H' hH => OpOk.step (ok_load rfl ti_int (locA_held hH rfl) rfl)) ?_
   refine any_take 9 rfl (by first | rfl | decide +kernel) rfl (by first | (simp [HeldL]; done) | (simp only [dH]; (repeat' first | trivial | rfl | constructor))) (fun H' hH => OpOk.step (ok_fieldAddr rfl ti_api_Zone rfl rfl ti_bool (by decide) rfl)) ?_
   refine any_take 10 rfl (by first | rfl | decide +kernel) rfl (by first | (simp [HeldL]; done) | (simp only [dH]; (repeat' first | trivial | rfl | constructor))) (fun H' hH => OpOk.step (ok_load rfl ti_bool (locA_held hH rfl) rfl)) ?_
   refine any_take 13 rfl (by first | rfl | decide +kernel) rfl (by first | (simp [HeldL]; done) | (simp only [dH]; (repeat' first | trivial | rfl | constructor))) (fun H' hH => OpOk.step (ok_fieldAddr rfl ti_api_Zone rfl rfl ti_int (by decide) rfl)) ?_
   refine any_take 14 rfl (by first | rfl | decide +kernel) rfl (by first | (simp [HeldL]; done) | (simp only [dH]; (repeat' first | trivial | rfl | constructor))) (fun H' hH => OpOk.step (ok_load rfl ti_int (locA_held hH rfl) rfl)) ?_
   refine any_one 3 rfl (by first | rfl | decide +kernel) rfl rfl (ok_call rfl rfl rfl ((rint_frz z.gen).plain rfl (by simp [AV.ren, renL_ints]))) (.inr (by first | (simp [HeldL]; done) | (simp only [dH]; (repeat' first | trivial | rfl | constructor)))) ?_
   refine any_one 4 rfl (by first | rfl | decide +kernel) rfl rfl (OpOk.step (by exact ok_append_ints (k := .u8) (xs := B) (ys := enc z.gen 8) rfl ti_Luint8 rfl ti_uint8 rfl (by decide) rfl ti_Luint8 (by simp) rfl rfl rfl rfl rfl rfl rfl rfl rfl (by simp [enc_len]; omega))) (.inr (by first | (simp [HeldL]; done) | (simp only [dH]; (repeat' first | trivial | rfl | constructor)))) ?_
   refine any_one 7 rfl (by first | rfl | decide +kernel) rfl rfl (ok_call rfl rfl rfl ((rint_frz z.slot).plain rfl (by simp [AV.ren, renL_ints]))) (.inr (by first | (simp [HeldL]; done) | (simp only [dH]; (repeat' first | trivial | rfl | constructor)))) ?_
   refine any_one 8 rfl (by first | rfl | decide +kernel) rfl rfl (OpOk.step (by exact ok_append_ints (k := .u8) (xs := B ++ enc z.gen 8) (ys := enc z.slot 8) rfl ti_Luint8 rfl ti_uint8 rfl (by decide) rfl ti_Luint8 (by simp) rfl rfl rfl rfl rfl rfl rfl rfl rfl (by simp [enc_len]; omega))) (.inr (by first | (simp [HeldL]; done) | (simp only [dH]; (repeat' first | trivial | rfl | constructor)))) ?_
   refine any_one 11 rfl (by first | rfl | decide +kernel) rfl rfl (ok_call rfl rfl rfl ((rflagput_frz z.full).plain rfl (by simp [AV.ren, renL_ints]))) (.inr (by first | (simp [HeldL]; done) | (simp only [dH]; (repeat' first | trivial | rfl | constructor)))) ?_
   refine any_one 12 rfl (by first | rfl | decide +kernel) rfl rfl (OpOk.step (by exact ok_append_ints (k := .u8) (xs := B ++ enc z.gen 8 ++ enc z.slot 8) (ys := flagB z.full) rfl ti_Luint8 rfl ti_uint8 rfl (by decide) rfl ti_Luint8 (by simp) rfl rfl rfl rfl rfl rfl rfl rfl rfl (by simp [enc_len, flagB]; omega))) (.inr (by first | (simp [HeldL]; done) | (simp only [dH]; (repeat' first | trivial | rfl | constructor)))) ?_
   refine any_one 15 rfl (by first | rfl | decide +kernel) rfl rfl (ok_call rfl rfl rfl ((rint_frz z.w).plain rfl (by simp [AV.ren, renL_ints]))) (.inr (by first | (simp [HeldL]; done) | (simp only [dH]; (repeat' first | trivial | rfl | constructor)))) ?_
   refine any_one 16 rfl (by first | rfl | decide +kernel) rfl rfl (OpOk.step (by exact ok_append_ints (k := .u8) (xs := B ++ enc z.gen 8 ++ enc z.slot 8 ++ flagB z.full) (ys := enc z.w 8) rfl ti_Luint8 rfl ti_uint8 rfl (by decide) rfl ti_Luint8 (by simp) rfl rfl rfl rfl rfl rfl rfl rfl rfl (by simp [enc_len, flagB]; omega))) (.inr (by first | (simp [HeldL]; done) | (simp only [dH]; (repeat' first | trivial | rfl | constructor)))) ?_
   refine any_take 17 rfl (by first | rfl | decide +kernel) rfl (by first | (simp [HeldL]; done) | (simp only [dH]; (repeat' first | trivial | rfl | constructor))) (fun H' hH => OpOk.step (ok_move (.inr rfl))) ?_
   refine any_done rfl ?_
   refine keepK hK16 [1, 3, 5, 6] (by dsimp) (by dsimp) ?_
   refine T.seq fun K17 hK17 => ?_
   obtain ⟨B2, hB2⟩ : ∃ B2, B ++ enc z.gen 8 ++ enc z.slot 8 ++ flagB z.full ++ enc z.w 8 = B2 := ⟨_, rfl⟩
   have hB2l : B2.length = B.length + 25 := by rw [← hB2]; simp [enc_len, flagB]
   refine T.ent (TEnt.fin (tm' := [(1, .ref 0 0 0), (3, .sl 1 0 B2.length), (5, .int w), (6, .ref 2 0 0)]) (H' := [some (StB s), some (BsB B2), some (ZnB z)]) [0, 6, 2] (by decide) (by simp) (by show [some (Blk.ren _ (StB s)), some (Blk.ren _ (BsB (B ++ enc z.gen 8 ++ enc z.slot 8 ++ flagB z.full ++ enc z.w 8))), some (Blk.ren _ (ZnB z))] = _; rw [StB_ren, BsB_ren, ZnB_ren, hB2]) ⟨rfl, by rw [← hB2]; rfl, rfl, rfl, trivial⟩) ?_
   refine T.draw mixed (SH [] (HeldL ([some (StB s), none, some (ZnB z)]))) ?_
   refine any_take 0 rfl (by first | rfl | decide +kernel) rfl (by first | (simp [HeldL]; done) | (simp only [dH]; (repeat' first | trivial | rfl | constructor))) (fun H' hH => OpOk.step (ok_move (.inl rfl))) ?_
   refine any_take 1 rfl (by first | rfl | decide +kernel) rfl (by first | (simp [HeldL]; done) | (simp only [dH]; (repeat' first | trivial | rfl | constructor))) (fun H' hH => OpOk.step (ok_fieldAddr rfl ti_api_Zone rfl rfl ti_bool (by decide) rfl)) ?_
   refine any_take 2 rfl (by first | rfl | decide +kernel) rfl (by first | (simp [HeldL]; done) | (simp only [dH]; (repeat' first | trivial | rfl | constructor))) (fun H' hH => OpOk.step (ok_load rfl ti_bool (locA_held hH rfl) rfl)) ?_
   refine any_take 5 rfl (by first | rfl | decide +kernel) rfl (by first | (simp [HeldL]; done) | (simp only [dH]; (repeat' first | trivial | rfl | constructor))) (fun H' hH => OpOk.step (ok_fieldAddr rfl ti_api_Zone rfl rfl ti_Lapi_Par (by decide) rfl)) ?_
   refine any_take 6 rfl (by first | rfl | decide +kernel) rfl (by first | (simp [HeldL]; done) | (simp only [dH]; (repeat' first | trivial | rfl | constructor))) (fun H' hH => OpOk.step (ok_load rfl ti_Lapi_Par (locA_held hH rfl) rfl)) ?_
   refine any_take 7 rfl (by first | rfl | decide +kernel) rfl (by first | (simp [HeldL]; done) | (simp only [dH]; (repeat' first | trivial | rfl | constructor))) (fun H' hH => OpOk.step (by exact ok_len' rfl rfl ti_Lapi_Par rfl (Prs_len _))) ?_
   refine any_one 3 rfl (by first | rfl | decide +kernel) rfl rfl (ok_call rfl rfl rfl ((rflagput_frz z.whole).plain rfl (by simp [AV.ren, renL_ints]))) (.inr (by first | (simp [HeldL]; done) | (simp only [dH]; (repeat' first | trivial | rfl | constructor)))) ?_
   refine any_one 4 rfl (by first | rfl | decide +kernel) rfl rfl (OpOk.step (by exact ok_append_ints (k := .u8) (xs := B2) (ys := flagB z.whole) rfl ti_Luint8 rfl ti_uint8 rfl (by decide) rfl ti_Luint8 (by simp) rfl rfl rfl rfl rfl rfl rfl rfl rfl (by simp [flagB]; omega))) (.inr (by first | (simp [HeldL]; done) | (simp only [dH]; (repeat' first | trivial | rfl | constructor)))) ?_
   refine any_one 8 rfl (by first | rfl | decide +kernel) rfl rfl (ok_call rfl rfl rfl ((rint_frz z.pars.length).plain rfl (by simp [AV.ren, renL_ints]))) (.inr (by first | (simp [HeldL]; done) | (simp only [dH]; (repeat' first | trivial | rfl | constructor)))) ?_
   refine any_one 9 rfl (by first | rfl | decide +kernel) rfl rfl (OpOk.step (by exact ok_append_ints (k := .u8) (xs := B2 ++ flagB z.whole) (ys := enc z.pars.length 8) rfl ti_Luint8 rfl ti_uint8 rfl (by decide) rfl ti_Luint8 (by simp) rfl rfl rfl rfl rfl rfl rfl rfl rfl (by simp [flagB, enc_len]; omega))) (.inr (by first | (simp [HeldL]; done) | (simp only [dH]; (repeat' first | trivial | rfl | constructor)))) ?_
   refine any_take 10 rfl (by first | rfl | decide +kernel) rfl (by first | (simp [HeldL]; done) | (simp only [dH]; (repeat' first | trivial | rfl | constructor))) (fun H' hH => OpOk.step (ok_move (.inr rfl))) ?_
   refine any_done rfl ?_
   refine keepK hK17 [1, 3, 5, 6] (by dsimp) (by dsimp) ?_
   refine T.seq fun K18 hK18 => ?_
   refine T.region ?_
   refine rs rfl rfl (ok_move (.inr rfl)) ?_
   refine ro_nil ?_
   refine keepK hK18 [1, 3, 5, 6, 7] (by dsimp) (by dsimp) ?_
   refine T.block ?_
   refine T.loopI (ι := Nat) (fun k => k ≤ z.pars.length) (fun k => z.pars.length - k) (fun k => ([(1, .ref 0 0 0), (3, .sl 1 0 (B ++ headZ z ++ encPs (z.pars.take k)).length), (5, .int w), (6, .ref 2 0 0), (7, .int k)], [some (StB s), some (BsB (B ++ headZ z ++ encPs (z.pars.take k))), some (ZnB z)])) 0 (Nat.zero_le _) (by
     have e : B2 ++ flagB z.whole ++ enc z.pars.length 8 = B ++ headZ z ++ encPs (z.pars.take 0) := by rw [← hB2]; simp [headZ, encPs]
     exact TEnt.fin [0, 4, 2] (by decide) (by simp) (by show [some (Blk.ren _ (StB s)), some (Blk.ren _ (BsB (B2 ++ flagB z.whole ++ enc z.pars.length 8))), some (Blk.ren _ (ZnB z))] = _; rw [StB_ren, BsB_ren, ZnB_ren, e]) ⟨rfl, by rw [← e]; rfl, rfl, rfl, rfl, trivial⟩) (fun i hi => ?_) -- loop 3
   have hpi := encPs_take z.pars i
   refine T.seq fun K19 hK19 => ?_
   refine T.seq fun K20 hK20 => ?_
   refine T.region ?_
   refine rs rfl rfl (ok_move (.inl rfl)) ?_
   refine rs rfl rfl (ok_fieldAddr rfl ti_api_Zone rfl rfl ti_Lapi_Par (by decide) rfl) ?_
   refine rs rfl rfl (ok_load rfl ti_Lapi_Par rfl rfl) ?_
   refine rs rfl rfl (ok_len' rfl rfl ti_Lapi_Par rfl (by first | exact ints_length _ _ | exact rowsA_length _ _ | exact Cms_len _ | exact mapLen _ | rfl)) ?_
   refine rs rfl rfl (ok_binOp rfl ti_int rfl) ?_
   refine ro_nil ?_
   refine keepK hK20 [1, 3, 5, 6, 7, 80] (by dsimp) (by dsimp) ?_
   refine T.cond rfl (fun hc => ?_) (fun hc => ?_) -- cond 3
   ·(try simp only [dE] at hc)
    try rw [Prs_len] at hc
    obtain ⟨p, hp⟩ : ∃ p, z.pars[i]? = some p := ⟨_, List.getElem?_eq_getElem (by omega)⟩
    have hps : B ++ headZ z ++ encPs (z.pars.take (i + 1)) = B ++ headZ z ++ encPs (z.pars.take i) ++ enc p.w 8 ++ (enc p.b.length 8 ++ p.b) := by rw [encPs_snoc hp, encP]; simp
    have hpi1 := encPs_take z.pars (i + 1)
    have hpl : (encPs (z.pars.take i)).length + (16 + p.b.length) = (encPs (z.pars.take (i + 1))).length := by rw [encPs_snoc hp, List.length_append, encP]; simp [enc_len]; omega
    refine T.skip ?_
    refine keepK hK19 [1, 3, 5, 6, 7] (by dsimp) (by dsimp) ?_
    refine T.seq fun K21 hK21 => ?_
    refine T.block ?_
    refine T.draw mixed (SH [] (HeldL ([some (StB s), none, some (ZnB z)]))) ?_
    refine any_take 0 rfl (by first | rfl | decide +kernel) rfl (by first | (simp [HeldL]; done) | (simp only [dH]; (repeat' first | trivial | rfl | constructor))) (fun H' hH => OpOk.step (ok_move (.inl rfl))) ?_
    refine any_take 1 rfl (by first | rfl | decide +kernel) rfl (by first | (simp [HeldL]; done) | (simp only [dH]; (repeat' first | trivial | rfl | constructor))) (fun H' hH => OpOk.step (ok_fieldAddr rfl ti_api_Zone rfl rfl ti_Lapi_Par (by decide) rfl)) ?_
    refine any_take 2 rfl (by first | rfl | decide +kernel) rfl (by first | (simp [HeldL]; done) | (simp only [dH]; (repeat' first | trivial | rfl | constructor))) (fun H' hH => OpOk.step (ok_load rfl ti_Lapi_Par (locA_held hH rfl) rfl)) ?_
    refine any_take 3 rfl (by first | rfl | decide +kernel) rfl (by first | (simp [HeldL]; done) | (simp only [dH]; (repeat' first | trivial | rfl | constructor))) (fun H' hH => OpOk.step (ok_move (.inl rfl))) ?_
    refine any_take 4 rfl (by first | rfl | decide +kernel) rfl (by first | (simp [HeldL]; done) | (simp only [dH]; (repeat' first | trivial | rfl | constructor))) (fun H' hH => OpOk.step (by exact ok_index_map (F := PrC) rfl ti_Lapi_Par rfl ti_api_Par rfl rfl rfl hp (by simp [PrC]))) ?_
    refine any_take 5 rfl (by first | rfl | decide +kernel) rfl (by first | (simp [HeldL]; done) | (simp only [dH]; (repeat' first | trivial | rfl | constructor))) (fun H' hH => OpOk.step (ok_fieldAddr rfl ti_api_Par rfl rfl ti_int (by decide) rfl)) ?_
    refine any_take 6 rfl (by first | rfl | decide +kernel) rfl (by first | (simp [HeldL]; done) | (simp only [dH]; (repeat' first | trivial | rfl | constructor))) (fun H' hH => OpOk.step (ok_load rfl ti_int (locA_held hH rfl) rfl)) ?_
    refine any_take 9 rfl (by first | rfl | decide +kernel) rfl (by first | (simp [HeldL]; done) | (simp only [dH]; (repeat' first | trivial | rfl | constructor))) (fun H' hH => OpOk.step (ok_fieldAddr rfl ti_api_Zone rfl rfl ti_Lapi_Par (by decide) rfl)) ?_
    refine any_take 10 rfl (by first | rfl | decide +kernel) rfl (by first | (simp [HeldL]; done) | (simp only [dH]; (repeat' first | trivial | rfl | constructor))) (fun H' hH => OpOk.step (ok_load rfl ti_Lapi_Par (locA_held hH rfl) rfl)) ?_
    refine any_take 11 rfl (by first | rfl | decide +kernel) rfl (by first | (simp [HeldL]; done) | (simp only [dH]; (repeat' first | trivial | rfl | constructor))) (fun H' hH => OpOk.step (ok_move (.inl rfl))) ?_
    refine any_take 12 rfl (by first | rfl | decide +kernel) rfl (by first | (simp [HeldL]; done) | (simp only [dH]; (repeat' first | trivial | rfl | constructor))) (fun H' hH => OpOk.step (by exact ok_index_map (F := PrC) rfl ti_Lapi_Par rfl ti_api_Par rfl rfl rfl hp (by simp [PrC]))) ?_
    refine any_take 13 rfl (by first | rfl | decide +kernel) rfl (by first | (simp [HeldL]; done) | (simp only [dH]; (repeat' first | trivial | rfl | constructor))) (fun H' hH => OpOk.step (ok_fieldAddr rfl ti_api_Par rfl rfl ti_Luint8 (by decide) rfl)) ?_
    refine any_take 14 rfl (by first | rfl | decide +kernel) rfl (by first | (simp [HeldL]; done) | (simp only [dH]; (repeat' first | trivial | rfl | constructor))) (fun H' hH => OpOk.step (ok_load rfl ti_Luint8 (locA_held hH rfl) rfl)) ?_
    refine any_one 7 rfl (by first | rfl | decide +kernel) rfl rfl (ok_call rfl rfl rfl ((rint_frz p.w).plain rfl (by simp [AV.ren, renL_ints]))) (.inr (by first | (simp [HeldL]; done) | (simp only [dH]; (repeat' first | trivial | rfl | constructor)))) ?_
    refine any_one 8 rfl (by first | rfl | decide +kernel) rfl rfl (OpOk.step (by exact ok_append_ints (k := .u8) (xs := B ++ headZ z ++ encPs (z.pars.take i)) (ys := enc p.w 8) rfl ti_Luint8 rfl ti_uint8 rfl (by decide) rfl ti_Luint8 (by simp) rfl rfl rfl rfl rfl rfl rfl rfl rfl (by simp [enc_len]; omega))) (.inr (by first | (simp [HeldL]; done) | (simp only [dH]; (repeat' first | trivial | rfl | constructor)))) ?_
    refine any_one 15 rfl (by first | rfl | decide +kernel) rfl rfl (ok_call rfl rfl rfl ((rbytesput_frz (l := p.b) rfl (by omega)).plain (by simp [renL, AV.ren, renL_ints]) (by simp [AV.ren, renL_ints]))) (.inr (by first | (simp [HeldL]; done) | (simp only [dH]; (repeat' first | trivial | rfl | constructor)))) ?_
    refine any_one 16 rfl (by first | rfl | decide +kernel) rfl rfl (OpOk.step (by exact ok_append_ints (k := .u8) (xs := B ++ headZ z ++ encPs (z.pars.take i) ++ enc p.w 8) (ys := enc p.b.length 8 ++ p.b) rfl ti_Luint8 rfl ti_uint8 rfl (by decide) rfl ti_Luint8 (by simp) rfl rfl rfl rfl rfl rfl rfl rfl rfl (by simp [enc_len]; omega))) (.inr (by first | (simp [HeldL]; done) | (simp only [dH]; (repeat' first | trivial | rfl | constructor)))) ?_
    refine any_take 17 rfl (by first | rfl | decide +kernel) rfl (by first | (simp [HeldL]; done) | (simp only [dH]; (repeat' first | trivial | rfl | constructor))) (fun H' hH => OpOk.step (ok_move (.inr rfl))) ?_
    refine any_done rfl ?_
    refine keepK hK21 [1, 3, 5, 6, 7] (by dsimp) (by dsimp) ?_
    refine T.region ?_
    refine rs rfl rfl (ok_move (.inl rfl)) ?_
    refine rs rfl rfl (ok_add64 rfl ti_int rfl rfl (by omega) (by omega)) ?_
    refine rs rfl rfl (ok_move (.inr rfl)) ?_
    refine ro_nil ?_
    exact ⟨i + 1, by omega, by omega, TEnt.fin [0, 4, 2] (by decide) (by simp) (by show [some (Blk.ren _ (StB s)), some (Blk.ren _ (BsB (B ++ headZ z ++ encPs (z.pars.take i) ++ enc p.w 8 ++ (enc p.b.length 8 ++ p.b)))), some (Blk.ren _ (ZnB z))] = _; rw [StB_ren, BsB_ren, ZnB_ren, hps]) ⟨rfl, by rw [hps]; rfl, rfl, rfl, rfl, trivial⟩⟩
   ·(try simp only [dE] at hc)
    try rw [Prs_len] at hc
    have hzf : A ++ encZs (s.zs.take (w + 1)) = B ++ headZ z ++ encPs (z.pars.take i) := by
      rw [hzs, encZ, ← hBq, show z.pars.take i = z.pars from List.take_of_length_le (by omega)]
      simp
    refine T.exit ?_
    refine keepK hK14 [1, 3, 5] (by dsimp) (by dsimp) ?_
    refine T.region ?_
    refine rs rfl rfl (ok_move (.inl rfl)) ?_
    refine rs rfl rfl (ok_add64 rfl ti_int rfl rfl (by omega) (by omega)) ?_
    refine rs rfl rfl (ok_move (.inr rfl)) ?_
    refine ro_nil ?_
    exact ⟨w + 1, by omega, by omega, TEnt.fin [0, 1] (by decide) (by simp) (by show [some (Blk.ren _ (StB s)), some (Blk.ren _ (BsB (B ++ headZ z ++ encPs (z.pars.take i))))] = _; rw [StB_ren, BsB_ren, hzf]) ⟨rfl, by rw [hzf]; rfl, rfl, trivial⟩⟩
  ·(try simp only [dE] at hc)
   try rw [Zns_len] at hc
   have hin : i = s.zs.length := by omega
   have hfin : A ++ encZs (s.zs.take i) = encSt s := by rw [← hA, show s.zs.take i = s.zs from List.take_of_length_le (by omega), encSt, List.append_assoc]
   rw [hfin]
   refine T.exit ?_
   refine keepK hK10 [3] (by dsimp) (by dsimp) ?_
   refine T.seq fun K22 hK22 => ?_
   refine T.region ?_
   refine rs rfl rfl (ok_move (.inl rfl)) ?_
   refine rs rfl rfl (ok_move (.inr rfl)) ?_
   refine ro_nil ?_
   refine keepK hK22 [2] (by dsimp) (by dsimp) ?_
   refine T.ret (hQ _ _ _ rfl ?_).1 -- ret 1
   exact TEnt.fin [1] (by decide) (by simp) (heap1 (congrArg some (BsB_ren _ _))) ⟨rfl, trivial⟩
end Go.Proofs.YtjklgbafnfoolaaGreat.AmF
namespace Go.Proofs.YtjklgbafnfoolaaGreat.AmF
open Go Go.AM
set_option maxRecDepth 100000
set_option maxHeartbeats 4000000
set_option linter.unusedSimpArgs false
set_option linter.unusedVariables false
attribute [local simp] tkeep tget tput ev cav argsTM pickA normT putA splice AV.cells ints_length rowsA_length Prs_len Zns_len
theorem sput_ok (s : St) (hT : RS s → (encSt s).length ≤ 1000000) (hsl : s.st.length ≤ 1000000) (hzl : s.zs.length ≤ 1000000) (hpl : ∀ z ∈ s.zs, z.pars.length ≤ 1000000) : CSpec Tryz.prog 20 [] [.agg (StC s)] [] (.fz 1 (ints .u8 (putS s))) := by
 refine CSpec.body Tryz.func20 rfl rfl rfl rfl rfl fun Q hQ => ?_
 refine T.seq fun K1 hK1 => ?_
 refine T.region ?_
 refine rs rfl rfl (ok_box (n := 15) rfl rfl (by decide)) ?_
 refine rs rfl rfl (ok_move (.inr rfl)) ?_
 refine ro_nil ?_
 refine keepK hK1 [1] (by dsimp) (by dsimp) ?_
 refine T.seq fun K2 hK2 => ?_
 refine T.seq fun K3 hK3 => ?_
 refine T.region ?_
 refine rs rfl rfl (ok_load rfl ti_api_State rfl rfl) ?_
 refine ro rfl rfl (ok_call rfl rfl rfl ((sright_ok s (by omega) (by omega) (fun z hz => by have := hpl z hz; omega)).plain (by simp [renL, AV.ren, StC_take, StC_ren]) rfl)) ?_
 refine rs rfl rfl (ok_unOp rfl rfl) ?_
 refine ro_nil ?_
 refine keepK hK3 [1, 12] (by dsimp) (by dsimp) ?_
 refine T.cond rfl (fun hc => ?_) (fun hc => ?_) -- cond 1
 ·(try simp only [dE] at hc)
  rw [putS_bad hc] at hQ
  refine T.seq fun K4 hK4 => ?_
  refine T.region ?_
  refine rs rfl rfl (ok_move (.inr rfl)) ?_
  refine ro_nil ?_
  refine keepK hK4 [2] (by dsimp) (by dsimp) ?_
  refine T.ret (hQ _ _ _ rfl ?_).1 -- ret 1
  exact (TEnt.put1 0 (x' := .fz 1 []) (Ent.nil 1)).trans (TEnt.fin [] (by decide) (by simp) rfl ⟨rfl, trivial⟩)
 ·(try simp only [dE] at hc)
  have hrs := hc
  have hT := hT hrs
  rw [putS_ok hrs] at hQ
  have hl0 := headS_len s
  have hT0 : (encSt s).length = (headS s).length + ((encs s.st).length + (encZs s.zs).length) := by rw [encSt, List.length_append, List.length_append]
  have hcl : (encs s.c.l).length = 88 := by rw [encs_len]; rfl
  refine T.skip ?_
  refine keepK hK2 [1] (by dsimp) (by dsimp) ?_
  refine T.seq fun K5 hK5 => ?_
  refine T.drawH mixed [] ?_
  refine any_take 0 rfl (by first | rfl | decide +kernel) rfl (HeldL.refl _) (fun H' hH => OpOk.step (ok_fieldAddr rfl ti_api_State rfl rfl ti_api_Conf (by decide) rfl)) ?_
  refine any_take 1 rfl (by first | rfl | decide +kernel) rfl (HeldL.refl _) (fun H' hH => OpOk.step (ok_load rfl ti_api_Conf (locA_held hH rfl) rfl)) ?_
  refine any_take 3 rfl (by first | rfl | decide +kernel) rfl (HeldL.refl _) (fun H' hH => OpOk.step (ok_fieldAddr rfl ti_api_State rfl rfl ti_int (by decide) rfl)) ?_
  refine any_take 4 rfl (by first | rfl | decide +kernel) rfl (HeldL.refl _) (fun H' hH => OpOk.step (ok_load rfl ti_int (locA_held hH rfl) rfl)) ?_
  refine any_take 6 rfl (by first | rfl | decide +kernel) rfl (HeldL.refl _) (fun H' hH => OpOk.step (ok_fieldAddr rfl ti_api_State rfl rfl ti_int (by decide) rfl)) ?_
  refine any_take 7 rfl (by first | rfl | decide +kernel) rfl (HeldL.refl _) (fun H' hH => OpOk.step (ok_load rfl ti_int (locA_held hH rfl) rfl)) ?_
  refine any_one 2 rfl (by first | rfl | decide +kernel) rfl rfl (ok_call rfl rfl rfl ((cput_frz s.c).plain (by show renL _ [.agg (CC s.c)] = _; simp [renL, AV.ren, CC_ren]) (by simp [AV.ren, renL_ints]))) (.inr (by first | (simp [HeldL]; done) | (simp only [dH]; (repeat' first | trivial | rfl | constructor)))) ?_
  refine any_one 5 rfl (by first | rfl | decide +kernel) rfl rfl (ok_call rfl rfl rfl ((pkint_frz (l := encs s.c.l) (v := s.ep) (r := encs s.c.l ++ enc s.ep 8) rfl (by omega)).plain (by simp [renL, AV.ren, renL_ints]) (by simp [AV.ren, renL_ints]))) (.inr (by first | (simp [HeldL]; done) | (simp only [dH]; (repeat' first | trivial | rfl | constructor)))) ?_
  refine any_one 8 rfl (by first | rfl | decide +kernel) rfl rfl (ok_call rfl rfl rfl ((pkint_frz (l := encs s.c.l ++ enc s.ep 8) (v := s.sq) (r := headS s) (by simp [headS]) (by simp [enc_len]; omega)).plain (by simp [renL, AV.ren, renL_ints]) (by simp [AV.ren, renL_ints]))) (.inr (by first | (simp [HeldL]; done) | (simp only [dH]; (repeat' first | trivial | rfl | constructor)))) ?_
  refine any_take 9 rfl (by first | rfl | decide +kernel) rfl (by first | exact HeldL.refl _ | exact HeldL.append _ _ | simp [HeldL]) (fun H' hH => OpOk.step (ok_move (.inr rfl))) ?_
  refine any_done rfl ?_
  refine keepK hK5 [1, 3] (by dsimp) (by dsimp) ?_
  refine T.seq fun K6 hK6 => ?_
  refine T.seq fun K7 hK7 => ?_
  refine T.region ?_
  refine rs rfl rfl (ok_fieldAddr rfl ti_api_State rfl rfl ti_Lint (by decide) rfl) ?_
  refine rs rfl rfl (ok_load rfl ti_Lint rfl rfl) ?_
  refine rs rfl rfl (ok_len' rfl rfl ti_Lint rfl (by first | exact ints_length _ _ | exact rowsA_length _ _ | exact Cms_len _ | exact mapLen _ | rfl)) ?_
  refine rs rfl rfl (ok_move (.inl rfl)) ?_
  refine ro_nil ?_
  refine keepK hK7 [1, 3, 23, 24, 25] (by dsimp) (by dsimp) ?_
  refine T.block ?_
  refine T.loopI (ι := Nat) (fun i => i ≤ s.st.length) (fun i => s.st.length - i) (fun i => ([(1, .ref 0 0 0), (3, .fz 1 (ints .u8 (headS s ++ encs (s.st.take i)))), (23, .fz 1 (ints .i64 s.st)), (24, .int s.st.length), (25, .int i)], [some (StB s)])) 0 (Nat.zero_le _) (TEnt.toH rfl ⟨rfl, by simp [encs], rfl, rfl, rfl, trivial⟩) (fun i hi => ?_) -- loop 1
  have hti := encs_take s.st i
  refine T.seq fun K8 hK8 => ?_
  refine T.region ?_
  refine rs rfl rfl (ok_binOp rfl ti_int rfl) ?_
  refine ro_nil ?_
  refine keepK hK8 [1, 3, 23, 24, 25, 26] (by dsimp) (by dsimp) ?_
  refine T.seq fun K9 hK9 => ?_
  refine T.cond rfl (fun hc => ?_) (fun hc => ?_) -- cond 2
  ·(try simp only [dE] at hc)
   obtain ⟨v, hv⟩ : ∃ v, s.st[i]? = some v := ⟨_, List.getElem?_eq_getElem (by omega)⟩
   refine T.skip ?_
   refine keepK hK9 [1, 3, 23, 24, 25] (by dsimp) (by dsimp) ?_
   refine T.seq fun K10 hK10 => ?_
   refine T.block ?_
   refine T.seq fun K11 hK11 => ?_
   refine T.region ?_
   refine rs rfl rfl (by exact ok_index_ints rfl ti_Lint rfl ti_int rfl rfl rfl (by omega) (by simpa using hv)) ?_
   refine rs rfl rfl (ok_load rfl ti_int rfl rfl) ?_
   refine rs rfl rfl (ok_move (.inr rfl)) ?_
   refine ro_nil ?_
   refine keepK hK11 [1, 3, 5, 23, 24, 25] (by dsimp) (by dsimp) ?_
   refine T.region ?_
   refine rs rfl rfl (ok_move (.inl rfl)) ?_
   refine rs rfl rfl (ok_move (.inl rfl)) ?_
   refine ro rfl rfl (ok_call rfl rfl rfl ((pkint_frz (l := headS s ++ encs (s.st.take i)) (v := v) (r := headS s ++ encs (s.st.take (i + 1))) (by rw [encs_snoc' hv, List.append_assoc]) (by rw [List.length_append]; omega)).plain (by simp [renL, AV.ren, renL_ints]) (by simp [AV.ren, renL_ints]))) ?_
   refine rs rfl rfl (ok_move (.inr rfl)) ?_
   refine ro_nil ?_
   refine keepK hK10 [1, 3, 23, 24, 25] (by dsimp) (by dsimp) ?_
   refine T.region ?_
   refine rs rfl rfl (ok_add64 rfl ti_int rfl rfl (by omega) (by omega)) ?_
   refine rs rfl rfl (ok_move (.inl rfl)) ?_
   refine ro_nil ?_
   exact ⟨i + 1, by omega, by omega, TEnt.toH rfl ⟨rfl, rfl, rfl, rfl, rfl, trivial⟩⟩
  ·(try simp only [dE] at hc)
   have hin : i = s.st.length := by omega
   subst hin
   have htk : s.st.take s.st.length = s.st := List.take_length ..
   obtain ⟨A, hA⟩ : ∃ A, headS s ++ encs s.st = A := ⟨_, rfl⟩
   have hAl : A.length = (headS s).length + (encs s.st).length := by rw [← hA, List.length_append]
   refine T.exit ?_
   refine keepK hK6 [1, 3] (by dsimp) (by dsimp) ?_
   refine T.seq fun K12 hK12 => ?_
   refine T.seq fun K13 hK13 => ?_
   refine T.region ?_
   refine rs rfl rfl (ok_fieldAddr rfl ti_api_State rfl rfl ti_Lapi_Zone (by decide) rfl) ?_
   refine rs rfl rfl (ok_load rfl ti_Lapi_Zone rfl rfl) ?_
   refine rs rfl rfl (ok_len' rfl rfl ti_Lapi_Zone rfl (by first | exact ints_length _ _ | exact rowsA_length _ _ | exact Cms_len _ | exact mapLen _ | rfl)) ?_
   refine rs rfl rfl (ok_move (.inl rfl)) ?_
   refine ro_nil ?_
   refine keepK hK13 [3, 34, 35, 36] (by dsimp) (by dsimp) ?_
   refine T.block ?_
   refine T.loopI (ι := Nat) (fun i => i ≤ s.zs.length) (fun i => s.zs.length - i) (fun i => ([(3, .fz 1 (ints .u8 (A ++ encZs (s.zs.take i)))), (34, .fz 6 (Zns s.zs)), (35, .int s.zs.length), (36, .int i)], [])) 0 (Nat.zero_le _) (TEnt.fin [] (by decide) (by simp) rfl ⟨by rw [htk, hA]; simp [encZs, AV.ren, renL_ints], by simp [AV.ren, Zns_ren], by rw [Zns_len]; rfl, rfl, trivial⟩) (fun i hi => ?_) -- loop 2
   have hzi := encZs_take s.zs i
   refine T.seq fun K14 hK14 => ?_
   refine T.region ?_
   refine rs rfl rfl (ok_binOp rfl ti_int rfl) ?_
   refine ro_nil ?_
   refine keepK hK14 [3, 34, 35, 36, 37] (by dsimp) (by dsimp) ?_
   refine T.seq fun K15 hK15 => ?_
   refine T.cond rfl (fun hc => ?_) (fun hc => ?_) -- cond 3
   ·(try simp only [dE] at hc)
    obtain ⟨w, hw⟩ : ∃ w, w = i := ⟨_, rfl⟩
    subst hw
    obtain ⟨z, hz⟩ : ∃ z, s.zs[w]? = some z := ⟨_, List.getElem?_eq_getElem (by omega)⟩
    have hzs := encZs_snoc hz
    have hzi1 := encZs_take s.zs (w + 1)
    obtain ⟨B, hBq⟩ : ∃ B, A ++ encZs (s.zs.take w) = B := ⟨_, rfl⟩
    have hBl : B.length = A.length + (encZs (s.zs.take w)).length := by rw [← hBq, List.length_append]
    have hzl1 : (encZs (s.zs.take w)).length + ((headZ z).length + (encPs z.pars).length) = (encZs (s.zs.take (w + 1))).length := by rw [hzs, List.length_append, encZ, List.length_append]
    have hhz := headZ_len z
    have hB1 : B.length + 34 + (encPs z.pars).length ≤ 1000000 := by omega
    have hpz := hpl z (List.mem_of_getElem? hz)
    rw [hBq]
    refine T.skip ?_
    refine keepK hK15 [3, 34, 35, 36] (by dsimp) (by dsimp) ?_
    refine T.seq fun K16 hK16 => ?_
    refine T.block ?_
    refine T.seq fun K17 hK17 => ?_
    refine T.region ?_
    refine rs rfl rfl (by exact ok_index_map (F := ZnC) rfl ti_Lapi_Zone rfl ti_api_Zone rfl rfl rfl hz (by simp [ZnC])) ?_
    refine rs rfl rfl (ok_load rfl ti_api_Zone rfl rfl) ?_
    refine rs rfl rfl (ok_alloc rfl ti_api_Zone rfl (by decide)) ?_
    refine rs rfl rfl (ok_store rfl ti_api_Zone (by decide) rfl rfl rfl rfl rfl (by first | exact Nat.le_of_ble_eq_true rfl | simp) (by first | exact .inl ⟨rfl, rfl⟩ | exact .inr rfl)) ?_
    refine ro_nil ?_
    refine keepK hK17 [3, 7, 34, 35, 36] (by dsimp) (by dsimp) ?_
    refine T.seq fun K18 hK18 => ?_
    refine T.ent (TEnt.toH (tm' := [(3, .fz 1 (ints .u8 B)), (7, .ref 0 0 0), (34, .fz 6 (Zns s.zs)), (35, .int s.zs.length), (36, .int w)]) (H' := [some (ZnB z)]) rfl ⟨rfl, rfl, rfl, rfl, rfl, trivial⟩) ?_
    refine T.drawH mixed [] ?_
    refine any_take 0 rfl (by first | rfl | decide +kernel) rfl (HeldL.refl _) (fun H' hH => OpOk.step (ok_move (.inl rfl))) ?_
    refine any_take 1 rfl (by first | rfl | decide +kernel) rfl (HeldL.refl _) (fun H' hH => OpOk.step (ok_fieldAddr rfl ti_api_Zone rfl rfl ti_int (by decide) rfl)) ?_
    refine any_take 2 rfl (by first | rfl | decide +kernel) rfl (HeldL.refl _) (fun H' hH => OpOk.step (ok_load rfl ti_int (locA_held hH rfl) rfl)) ?_
    refine any_take 4 rfl (by first | rfl | decide +kernel) rfl (HeldL.refl _) (fun H' hH => OpOk.step (ok_fieldAddr rfl ti_api_Zone rfl rfl ti_int (by decide) rfl)) ?_
    refine any_take 5 rfl (by first | rfl | decide +kernel) rfl (HeldL.refl _) (fun H' hH => OpOk.step (ok_load rfl ti_int (locA_held hH rfl) rfl)) ?_
    refine any_take 7 rfl (by first | rfl | decide +kernel) rfl (HeldL.refl _) (fun H' hH => OpOk.step (ok_fieldAddr rfl ti_api_Zone rfl rfl ti_bool (by decide) rfl)) ?_
    refine any_take 8 rfl (by first | rfl | decide +kernel) rfl (HeldL.refl _) (fun H' hH => OpOk.step (ok_load rfl ti_bool (locA_held hH rfl) rfl)) ?_
    refine any_take 10 rfl (by first | rfl | decide +kernel) rfl (HeldL.refl _) (fun H' hH => OpOk.step (ok_fieldAddr rfl ti_api_Zone rfl rfl ti_int (by decide) rfl)) ?_
    refine any_take 11 rfl (by first | rfl | decide +kernel) rfl (HeldL.refl _) (fun H' hH => OpOk.step (ok_load rfl ti_int (locA_held hH rfl) rfl)) ?_
    refine any_one 3 rfl (by first | rfl | decide +kernel) rfl rfl (ok_call rfl rfl rfl ((pkint_frz (l := B) (v := z.gen) (r := B ++ enc z.gen 8) rfl (by omega)).plain (by simp [renL, AV.ren, renL_ints]) (by simp [AV.ren, renL_ints]))) (.inr (by first | (simp [HeldL]; done) | (simp only [dH]; (repeat' first | trivial | rfl | constructor)))) ?_
    refine any_one 6 rfl (by first | rfl | decide +kernel) rfl rfl (ok_call rfl rfl rfl ((pkint_frz (l := B ++ enc z.gen 8) (v := z.slot) (r := B ++ enc z.gen 8 ++ enc z.slot 8) rfl (by simp [enc_len]; omega)).plain (by simp [renL, AV.ren, renL_ints]) (by simp [AV.ren, renL_ints]))) (.inr (by first | (simp [HeldL]; done) | (simp only [dH]; (repeat' first | trivial | rfl | constructor)))) ?_
    refine any_one 9 rfl (by first | rfl | decide +kernel) rfl rfl (ok_call rfl rfl rfl ((pkflag_frz (l := B ++ enc z.gen 8 ++ enc z.slot 8) (is := z.full) (r := B ++ enc z.gen 8 ++ enc z.slot 8 ++ flagB z.full) rfl (by simp [enc_len]; omega)).plain (by simp [renL, AV.ren, renL_ints]) (by simp [AV.ren, renL_ints]))) (.inr (by first | (simp [HeldL]; done) | (simp only [dH]; (repeat' first | trivial | rfl | constructor)))) ?_
    refine any_one 12 rfl (by first | rfl | decide +kernel) rfl rfl (ok_call rfl rfl rfl ((pkint_frz (l := B ++ enc z.gen 8 ++ enc z.slot 8 ++ flagB z.full) (v := z.w) (r := B ++ enc z.gen 8 ++ enc z.slot 8 ++ flagB z.full ++ enc z.w 8) rfl (by simp [enc_len, flagB]; omega)).plain (by simp [renL, AV.ren, renL_ints]) (by simp [AV.ren, renL_ints]))) (.inr (by first | (simp [HeldL]; done) | (simp only [dH]; (repeat' first | trivial | rfl | constructor)))) ?_
    refine any_take 13 rfl (by first | rfl | decide +kernel) rfl (by first | exact HeldL.refl _ | exact HeldL.append _ _ | simp [HeldL]) (fun H' hH => OpOk.step (ok_move (.inr rfl))) ?_
    refine any_done rfl ?_
    refine keepK hK18 [3, 7, 34, 35, 36] (by dsimp) (by dsimp) ?_
    refine T.seq fun K19 hK19 => ?_
    refine T.drawH mixed [] ?_
    refine any_take 0 rfl (by first | rfl | decide +kernel) rfl (HeldL.refl _) (fun H' hH => OpOk.step (ok_move (.inl rfl))) ?_
    refine any_take 1 rfl (by first | rfl | decide +kernel) rfl (HeldL.refl _) (fun H' hH => OpOk.step (ok_fieldAddr rfl ti_api_Zone rfl rfl ti_bool (by decide) rfl)) ?_
    refine any_take 2 rfl (by first | rfl | decide +kernel) rfl (HeldL.refl _) (fun H' hH => OpOk.step (ok_load rfl ti_bool (locA_held hH rfl) rfl)) ?_
    refine any_take 4 rfl (by first | rfl | decide +kernel) rfl (HeldL.refl _) (fun H' hH => OpOk.step (ok_fieldAddr rfl ti_api_Zone rfl rfl ti_Lapi_Par (by decide) rfl)) ?_
    refine any_take 5 rfl (by first | rfl | decide +kernel) rfl (HeldL.refl _) (fun H' hH => OpOk.step (ok_load rfl ti_Lapi_Par (locA_held hH rfl) rfl)) ?_
    refine any_take 6 rfl (by first | rfl | decide +kernel) rfl (HeldL.refl _) (fun H' hH => OpOk.step (by exact ok_len' rfl rfl ti_Lapi_Par rfl (Prs_len _))) ?_
    refine any_one 3 rfl (by first | rfl | decide +kernel) rfl rfl (ok_call rfl rfl rfl ((pkflag_frz (l := B ++ enc z.gen 8 ++ enc z.slot 8 ++ flagB z.full ++ enc z.w 8) (is := z.whole) (r := B ++ enc z.gen 8 ++ enc z.slot 8 ++ flagB z.full ++ enc z.w 8 ++ flagB z.whole) rfl (by simp [enc_len, flagB]; omega)).plain (by simp [renL, AV.ren, renL_ints]) (by simp [AV.ren, renL_ints]))) (.inr (by first | (simp [HeldL]; done) | (simp only [dH]; (repeat' first | trivial | rfl | constructor)))) ?_
    refine any_one 7 rfl (by first | rfl | decide +kernel) rfl rfl (ok_call rfl rfl rfl ((pkint_frz (l := B ++ enc z.gen 8 ++ enc z.slot 8 ++ flagB z.full ++ enc z.w 8 ++ flagB z.whole) (v := z.pars.length) (r := B ++ headZ z) (by simp [headZ]) (by simp [enc_len, flagB]; omega)).plain (by simp [renL, AV.ren, renL_ints]) (by simp [AV.ren, renL_ints]))) (.inr (by first | (simp [HeldL]; done) | (simp only [dH]; (repeat' first | trivial | rfl | constructor)))) ?_
    refine any_take 8 rfl (by first | rfl | decide +kernel) rfl (by first | exact HeldL.refl _ | exact HeldL.append _ _ | simp [HeldL]) (fun H' hH => OpOk.step (ok_move (.inr rfl))) ?_
    refine any_done rfl ?_
    refine keepK hK19 [3, 7, 34, 35, 36] (by dsimp) (by dsimp) ?_
    refine T.seq fun K20 hK20 => ?_
    refine T.region ?_
    refine rs rfl rfl (ok_fieldAddr rfl ti_api_Zone rfl rfl ti_Lapi_Par (by decide) rfl) ?_
    refine rs rfl rfl (ok_load rfl ti_Lapi_Par rfl rfl) ?_
    refine rs rfl rfl (by exact ok_len' rfl rfl ti_Lapi_Par rfl (Prs_len _)) ?_
    refine rs rfl rfl (ok_move (.inl rfl)) ?_
    refine ro_nil ?_
    refine keepK hK20 [3, 34, 35, 36, 62, 63, 64] (by dsimp) (by dsimp) ?_
    refine T.block ?_
    refine T.loopI (ι := Nat) (fun k => k ≤ z.pars.length) (fun k => z.pars.length - k) (fun k => ([(3, .fz 1 (ints .u8 (B ++ headZ z ++ encPs (z.pars.take k)))), (34, .fz 6 (Zns s.zs)), (35, .int s.zs.length), (36, .int w), (62, .fz 2 (Prs z.pars)), (63, .int z.pars.length), (64, .int k)], [])) 0 (Nat.zero_le _) (TEnt.fin [] (by decide) (by simp) rfl ⟨by simp [encPs, AV.ren, renL_ints], by simp [AV.ren, Zns_ren], rfl, rfl, by simp [AV.ren, Prs_ren], rfl, rfl, trivial⟩) (fun i hi => ?_) -- loop 3
    have hpi := encPs_take z.pars i
    refine T.seq fun K21 hK21 => ?_
    refine T.region ?_
    refine rs rfl rfl (ok_binOp rfl ti_int rfl) ?_
    refine ro_nil ?_
    refine keepK hK21 [3, 34, 35, 36, 62, 63, 64, 65] (by dsimp) (by dsimp) ?_
    refine T.seq fun K22 hK22 => ?_
    refine T.cond rfl (fun hc => ?_) (fun hc => ?_) -- cond 4
    ·(try simp only [dE] at hc)
     obtain ⟨p, hp⟩ : ∃ p, z.pars[i]? = some p := ⟨_, List.getElem?_eq_getElem (by omega)⟩
     have hps : B ++ headZ z ++ encPs (z.pars.take i) ++ enc p.w 8 ++ enc p.b.length 8 ++ p.b = B ++ headZ z ++ encPs (z.pars.take (i + 1)) := by rw [encPs_snoc hp, encP]; simp
     have hpi1 := encPs_take z.pars (i + 1)
     have hpll : (encPs (z.pars.take i)).length + (16 + p.b.length) = (encPs (z.pars.take (i + 1))).length := by rw [encPs_snoc hp, List.length_append, encP]; simp [enc_len]; omega
     refine T.skip ?_
     refine keepK hK22 [3, 34, 35, 36, 62, 63, 64] (by dsimp) (by dsimp) ?_
     refine T.seq fun K23 hK23 => ?_
     refine T.block ?_
     refine T.seq fun K24 hK24 => ?_
     refine T.region ?_
     refine rs rfl rfl (by exact ok_index_map (F := PrC) rfl ti_Lapi_Par rfl ti_api_Par rfl rfl rfl hp (by simp [PrC])) ?_
     refine rs rfl rfl (ok_load rfl ti_api_Par rfl rfl) ?_
     refine rs rfl rfl (ok_alloc rfl ti_api_Par rfl (by decide)) ?_
     refine rs rfl rfl (ok_store rfl ti_api_Par (by decide) rfl rfl rfl rfl rfl (by first | exact Nat.le_of_ble_eq_true rfl | simp) (by first | exact .inl ⟨rfl, rfl⟩ | exact .inr rfl)) ?_
     refine ro_nil ?_
     refine keepK hK24 [3, 9, 34, 35, 36, 62, 63, 64] (by dsimp) (by dsimp) ?_
     refine T.drawH mixed [] ?_
     refine any_take 0 rfl (by first | rfl | decide +kernel) rfl (HeldL.refl _) (fun H' hH => OpOk.step (ok_move (.inl rfl))) ?_
     refine any_take 1 rfl (by first | rfl | decide +kernel) rfl (HeldL.refl _) (fun H' hH => OpOk.step (ok_fieldAddr rfl ti_api_Par rfl rfl ti_int (by decide) rfl)) ?_
     refine any_take 2 rfl (by first | rfl | decide +kernel) rfl (HeldL.refl _) (fun H' hH => OpOk.step (ok_load rfl ti_int (locA_held hH rfl) rfl)) ?_
     refine any_take 4 rfl (by first | rfl | decide +kernel) rfl (HeldL.refl _) (fun H' hH => OpOk.step (ok_fieldAddr rfl ti_api_Par rfl rfl ti_Luint8 (by decide) rfl)) ?_
     refine any_take 5 rfl (by first | rfl | decide +kernel) rfl (HeldL.refl _) (fun H' hH => OpOk.step (ok_load rfl ti_Luint8 (locA_held hH rfl) rfl)) ?_
     refine any_one 3 rfl (by first | rfl | decide +kernel) rfl rfl (ok_call rfl rfl rfl ((pkint_frz (l := B ++ headZ z ++ encPs (z.pars.take i)) (v := p.w) (r := B ++ headZ z ++ encPs (z.pars.take i) ++ enc p.w 8) rfl (by simp; omega)).plain (by simp [renL, AV.ren, renL_ints]) (by simp [AV.ren, renL_ints]))) (.inr (by first | (simp [HeldL]; done) | (simp only [dH]; (repeat' first | trivial | rfl | constructor)))) ?_
     refine any_one 6 rfl (by first | rfl | decide +kernel) rfl rfl (ok_call rfl rfl rfl ((pkbytes_frz (l := B ++ headZ z ++ encPs (z.pars.take i) ++ enc p.w 8) (x := p.b) hps (by simp [enc_len]; omega) (by omega)).plain (by simp [renL, AV.ren, renL_ints]) (by simp [AV.ren, renL_ints]))) (.inr (by first | (simp [HeldL]; done) | (simp only [dH]; (repeat' first | trivial | rfl | constructor)))) ?_
     refine any_take 7 rfl (by first | rfl | decide +kernel) rfl (by first | exact HeldL.refl _ | exact HeldL.append _ _ | simp [HeldL]) (fun H' hH => OpOk.step (ok_move (.inr rfl))) ?_
     refine any_done rfl ?_
     refine keepK hK23 [3, 34, 35, 36, 62, 63, 64] (by dsimp) (by dsimp) ?_
     refine T.region ?_
     refine rs rfl rfl (ok_add64 rfl ti_int rfl rfl (by omega) (by omega)) ?_
     refine rs rfl rfl (ok_move (.inl rfl)) ?_
     refine ro_nil ?_
     exact ⟨i + 1, by omega, by omega, TEnt.fin [] (by decide) (by simp) rfl ⟨by simp [AV.ren, renL_ints], by simp [AV.ren, Zns_ren], rfl, rfl, by simp [AV.ren, Prs_ren], rfl, rfl, trivial⟩⟩
    ·(try simp only [dE] at hc)
     have hzf : A ++ encZs (s.zs.take (w + 1)) = B ++ headZ z ++ encPs (z.pars.take i) := by
       rw [hzs, encZ, ← hBq, show z.pars.take i = z.pars from List.take_of_length_le (by omega)]
       simp
     refine T.exit ?_
     refine keepK hK16 [3, 34, 35, 36] (by dsimp) (by dsimp) ?_
     refine T.region ?_
     refine rs rfl rfl (ok_add64 rfl ti_int rfl rfl (by omega) (by omega)) ?_
     refine rs rfl rfl (ok_move (.inl rfl)) ?_
     refine ro_nil ?_
     exact ⟨w + 1, by omega, by omega, TEnt.fin [] (by decide) (by simp) rfl ⟨by rw [hzf]; simp [AV.ren, renL_ints], by simp [AV.ren, Zns_ren], rfl, rfl, trivial⟩⟩
   ·(try simp only [dE] at hc)
    have hin : i = s.zs.length := by omega
    have hfin : A ++ encZs (s.zs.take i) = encSt s := by rw [← hA, show s.zs.take i = s.zs from List.take_of_length_le (by omega), encSt, List.append_assoc]
    rw [hfin]
    refine T.exit ?_
    refine keepK hK12 [3] (by dsimp) (by dsimp) ?_
    refine T.seq fun K25 hK25 => ?_
    refine T.region ?_
    refine rs rfl rfl (ok_move (.inl rfl)) ?_
    refine rs rfl rfl (ok_move (.inr rfl)) ?_
    refine ro_nil ?_
    refine keepK hK25 [2] (by dsimp) (by dsimp) ?_
    refine T.ret (hQ _ _ _ rfl ?_).1 -- ret 2
    exact TEnt.fin [] (by decide) (by simp) rfl ⟨by simp [tupA, AV.ren, renL_ints], trivial⟩
end Go.Proofs.YtjklgbafnfoolaaGreat.AmF
namespace Go.Proofs.YtjklgbafnfoolaaGreat.AmF
open Go Go.AM
set_option maxRecDepth 100000
set_option maxHeartbeats 4000000
set_option linter.unusedSimpArgs false
set_option linter.unusedVariables false
attribute [local simp] tkeep tget tput ev cav argsTM pickA normT putA splice AV.cells ints_length rowsA_length Prs_len Zns_len
theorem ri_in {l : List Int} {p : Nat} {e a b : Int} (h : a ≤ 0 ∧ 0 ≤ b) : a ≤ (ri l p e a b).2.2 ∧ (ri l p e a b).2.2 ≤ b := by
  unfold ri
  split
  · exact h
  · split
    · exact h
    · split
      · exact h
      · dsimp only; omega
/-- So many parities read. -/
def pgK (l : List Int) (p : Nat) (e : Int) : Nat → List Pr × Nat × Int
  | 0 => ([], p, e)
  | i + 1 => ((pgK l p e i).1 ++ [⟨(ri l (pgK l p e i).2.1 (pgK l p e i).2.2 0 1099511627776).2.2, (rb l (ri l (pgK l p e i).2.1 (pgK l p e i).2.2 0 1099511627776).1 (ri l (pgK l p e i).2.1 (pgK l p e i).2.2 0 1099511627776).2.1 1048576).2.2⟩],
      (rb l (ri l (pgK l p e i).2.1 (pgK l p e i).2.2 0 1099511627776).1 (ri l (pgK l p e i).2.1 (pgK l p e i).2.2 0 1099511627776).2.1 1048576).1,
      (rb l (ri l (pgK l p e i).2.1 (pgK l p e i).2.2 0 1099511627776).1 (ri l (pgK l p e i).2.1 (pgK l p e i).2.2 0 1099511627776).2.1 1048576).2.1)
theorem pgK_succ {l : List Int} {p p1 p2 p3 : Nat} {e e1 e2 e3 w : Int} {i : Nat} {ps : List Pr} {x : List Int} (h : pgK l p e i = (ps, p1, e1)) (h1 : ri l p1 e1 0 1099511627776 = (p2, e2, w)) (h2 : rb l p2 e2 1048576 = (p3, e3, x)) : pgK l p e (i + 1) = (ps ++ [⟨w, x⟩], p3, e3) := by
  rw [pgK, h]
  dsimp only
  rw [h1]
  dsimp only
  rw [h2]
theorem pgK_le {l : List Int} {p : Nat} {e : Int} (hp : p ≤ l.length) : ∀ i, (pgK l p e i).2.1 ≤ l.length
  | 0 => hp
  | i + 1 => rb_le (ri_le (pgK_le hp i))
theorem pgK_len (l : List Int) (p : Nat) (e : Int) : ∀ i, (pgK l p e i).1.length = i
  | 0 => rfl
  | i + 1 => by rw [pgK, List.length_append, pgK_len l p e i]; rfl
/-- A zone read. -/
def zget (l : List Int) (p : Nat) (e : Int) : Zn × Nat × Int :=
  let a1 := ri l p e 0 1099511627776
  let a2 := ri l a1.1 a1.2.1 (-1) 64
  let a3 := rf l a2.1 a2.2.1
  let a4 := ri l a3.1 a3.2.1 0 1099511627776
  let a5 := rf l a4.1 a4.2.1
  let a6 := ri l a5.1 a5.2.1 0 2
  let q := pgK l a6.1 a6.2.1 a6.2.2.toNat
  (⟨a1.2.2, a2.2.2, a3.2.2, a4.2.2, a5.2.2, q.1⟩, q.2.1, q.2.2)
theorem zget_le {l : List Int} {p : Nat} {e : Int} (hp : p ≤ l.length) : (zget l p e).2.1 ≤ l.length := pgK_le (ri_le (rf_le (ri_le (rf_le (ri_le (ri_le hp)))))) _
def PsB (l : List Pr) : Blk := ⟨2, true, Prs l⟩
theorem PsB_ren (ρ : Nat → Option Nat) (l : List Pr) : Blk.ren ρ (PsB l) = PsB l := by simp [PsB, Blk.ren, Prs_ren]
def ZcB (g s : Int) (f : Bool) (w : Int) (wh : Bool) (p n : Nat) : Blk := ⟨6, true, [.agg [.int g, .int s, .b f, .int w, .b wh, .sl p 0 n]]⟩
theorem ZcB_ren {ρ : Nat → Option Nat} {p q : Nat} (hρ : ρ p = some q) (g s : Int) (f : Bool) (w : Int) (wh : Bool) (n : Nat) : Blk.ren ρ (ZcB g s f w wh p n) = ZcB g s f w wh q n := by simp [ZcB, Blk.ren, renL, AV.ren, hρ]
def ZZ : Blk := ⟨6, true, [cav (.agg #[.int .i64 0, .int .i64 0, .bool false, .int .i64 0, .bool false, .slice none 0 0])]⟩
theorem zg_end {k : Nat} {tm : TM} {H : Heap} {z : Zn} {R0 : Blk} (hk : k = 1) (h : tget tm 0 = .agg (ZnS z (.sl 2 0 z.pars.length))) (h0 : hget H 0 = some R0) (hr : ∀ ρ, Blk.ren ρ R0 = R0) (h2 : hget H 2 = some (PsB z.pars)) : TEnt k tm H [(0, .agg (ZnC z))] [some R0] := by
  subst hk
  have h2l := hget_lt h2
  refine (TEnt.freeze 2 h2).trans ((TEnt.put1 0 (x' := .agg (ZnC z)) (by
    rw [h]
    exact Ent.zone z (by rw [hget_set, if_pos ⟨rfl, h2l⟩]; rfl))).trans (TEnt.fin [0] (by decide) (by
      have := hget_lt h0
      simp <;> omega) (by simp [normH, hget_set, h0, hr]) ⟨by simp [AV.ren, renL, ZnC_ren], trivial⟩))
theorem zget_ok (l : List Int) (p : Nat) (e : Int) (hB : Bytes l) (hp : p ≤ l.length) (hl : l.length ≤ 140737488355328) : CSpec Tryz.prog 100 [R l p e] [.ref 0 0 0] [some (R l (zget l p e).2.1 (zget l p e).2.2)] (.agg (ZnC (zget l p e).1)) := by
 obtain ⟨⟨p1, e1, g⟩, h1⟩ : ∃ q, ri l p e 0 1099511627776 = q := ⟨_, rfl⟩
 obtain ⟨⟨p2, e2, s⟩, h2⟩ : ∃ q, ri l p1 e1 (-1) 64 = q := ⟨_, rfl⟩
 obtain ⟨⟨p3, e3, f⟩, h3⟩ : ∃ q, rf l p2 e2 = q := ⟨_, rfl⟩
 obtain ⟨⟨p4, e4, w⟩, h4⟩ : ∃ q, ri l p3 e3 0 1099511627776 = q := ⟨_, rfl⟩
 obtain ⟨⟨p5, e5, wh⟩, h5⟩ : ∃ q, rf l p4 e4 = q := ⟨_, rfl⟩
 obtain ⟨⟨p6, e6, n0⟩, h6⟩ : ∃ q, ri l p5 e5 0 2 = q := ⟨_, rfl⟩
 have k1 : p1 ≤ l.length := by have := ri_le (e := e) (a := 0) (b := 1099511627776) hp; rw [h1] at this; exact this
 have k2 : p2 ≤ l.length := by have := ri_le (e := e1) (a := -1) (b := 64) k1; rw [h2] at this; exact this
 have k3 : p3 ≤ l.length := by have := rf_le (e := e2) k2; rw [h3] at this; exact this
 have k4 : p4 ≤ l.length := by have := ri_le (e := e3) (a := 0) (b := 1099511627776) k3; rw [h4] at this; exact this
 have k5 : p5 ≤ l.length := by have := rf_le (e := e4) k4; rw [h5] at this; exact this
 have k6 : p6 ≤ l.length := by have := ri_le (e := e5) (a := 0) (b := 2) k5; rw [h6] at this; exact this
 have hn0 : 0 ≤ n0 ∧ n0 ≤ 2 := by have := ri_in (l := l) (p := p5) (e := e5) (a := 0) (b := 2) (by omega); rw [h6] at this; exact this
 obtain ⟨n, rfl⟩ := Int.eq_ofNat_of_zero_le hn0.1
 have hz : zget l p e = (⟨g, s, f, w, wh, (pgK l p6 e6 n).1⟩, (pgK l p6 e6 n).2.1, (pgK l p6 e6 n).2.2) := by
   unfold zget
   simp only [h1, h2, h3, h4, h5, h6]
   rfl
 rw [hz]
 refine CSpec.body Tryz.func100 rfl rfl rfl rfl rfl fun Q hQ => ?_
 refine T.seq fun K1 hK1 => ?_
 refine T.region ?_
 refine rs rfl rfl (ok_alloc rfl ti_api_Zone rfl (by decide)) ?_
 refine ro_nil ?_
 refine keepK hK1 [0, 2] (by dsimp) (by dsimp) ?_
 refine T.seq fun K2 hK2 => ?_
 refine T.region ?_
 refine rs rfl rfl (ok_move (.inl rfl)) ?_
 refine ro rfl rfl (ok_call rfl rfl rfl ((by have h := (int_ok l p e 0 1099511627776 hB hp hl).passR (H := [some (R l p e), some ZZ]) (args := [.ref 0 0 0, .int 0, .int 1099511627776]) 0 rfl rfl (fun _ => rfl); rw [h1] at h; exact h))) ?_
 refine rs rfl rfl (ok_move (.inl rfl)) ?_
 refine ro rfl rfl (ok_call rfl rfl rfl ((by have h := (int_ok l p1 e1 (-1) 64 hB k1 hl).passR (H := [some (R l p1 e1), some ZZ]) (args := [.ref 0 0 0, .int (-1), .int 64]) 0 rfl rfl (fun _ => rfl); rw [h2] at h; exact h))) ?_
 refine rs rfl rfl (((ok_build rfl ti_api_Zone rfl).eq (x' := .agg [.int g, .int s, .b false, .int 0, .b false, .v (.slice none 0 0)]) rfl rfl).tent ((emptyAt11 0 5 2 (by decide) rfl rfl).trans (TEnt.to ⟨rfl, trivial⟩))) ?_
 refine rs rfl rfl (ok_alloc rfl ti_api_Zone rfl (by decide)) ?_
 refine rs rfl rfl (ok_store rfl ti_api_Zone (by decide) rfl rfl rfl rfl rfl (by first | exact Nat.le_of_ble_eq_true rfl | simp) (by first | exact .inl ⟨rfl, rfl⟩ | exact .inr rfl)) ?_
 refine ro_nil ?_
 refine keepK hK2 [0, 2, 3] (by dsimp) (by dsimp) ?_
 refine T.seq fun K3 hK3 => ?_
 refine T.ent (TEnt.toH (tm' := [(0, .ref 0 0 0), (2, .ref 1 0 0), (3, .ref 3 0 0)]) (H' := [some (R l p2 e2), some ZZ, some (PsB []), some (ZcB g s false 0 false 2 0)]) rfl ⟨rfl, rfl, rfl, trivial⟩) ?_
 refine T.region ?_
 refine rs rfl rfl (ok_move (.inl rfl)) ?_
 refine ro rfl rfl (ok_call rfl rfl rfl ((by have h := (flag_ok l p2 e2 k2 hl).passR (H := [some (R l p2 e2), some ZZ, some (PsB []), some (ZcB g s false 0 false 2 0)]) (args := [.ref 0 0 0]) 0 rfl rfl (fun _ => rfl); rw [h3] at h; exact h))) ?_
 refine rs rfl rfl (ok_fieldAddr rfl ti_api_Zone rfl rfl ti_bool (by decide) rfl) ?_
 refine rs rfl rfl (ok_store rfl ti_bool (by decide) rfl rfl rfl rfl rfl (by first | exact Nat.le_of_ble_eq_true rfl | simp) (by first | exact .inl ⟨rfl, rfl⟩ | exact .inr rfl)) ?_
 refine ro_nil ?_
 refine keepK hK3 [0, 2, 3] (by dsimp) (by dsimp) ?_
 refine T.seq fun K4 hK4 => ?_
 refine T.ent (TEnt.toH (tm' := [(0, .ref 0 0 0), (2, .ref 1 0 0), (3, .ref 3 0 0)]) (H' := [some (R l p3 e3), some ZZ, some (PsB []), some (ZcB g s f 0 false 2 0)]) rfl ⟨rfl, rfl, rfl, trivial⟩) ?_
 refine T.region ?_
 refine rs rfl rfl (ok_move (.inl rfl)) ?_
 refine ro rfl rfl (ok_call rfl rfl rfl ((by have h := (int_ok l p3 e3 0 1099511627776 hB k3 hl).passR (H := [some (R l p3 e3), some ZZ, some (PsB []), some (ZcB g s f 0 false 2 0)]) (args := [.ref 0 0 0, .int 0, .int 1099511627776]) 0 rfl rfl (fun _ => rfl); rw [h4] at h; exact h))) ?_
 refine rs rfl rfl (ok_fieldAddr rfl ti_api_Zone rfl rfl ti_int (by decide) rfl) ?_
 refine rs rfl rfl (ok_store rfl ti_int (by decide) rfl rfl rfl rfl rfl (by first | exact Nat.le_of_ble_eq_true rfl | simp) (by first | exact .inl ⟨rfl, rfl⟩ | exact .inr rfl)) ?_
 refine ro_nil ?_
 refine keepK hK4 [0, 2, 3] (by dsimp) (by dsimp) ?_
 refine T.seq fun K5 hK5 => ?_
 refine T.ent (TEnt.toH (tm' := [(0, .ref 0 0 0), (2, .ref 1 0 0), (3, .ref 3 0 0)]) (H' := [some (R l p4 e4), some ZZ, some (PsB []), some (ZcB g s f w false 2 0)]) rfl ⟨rfl, rfl, rfl, trivial⟩) ?_
 refine T.region ?_
 refine rs rfl rfl (ok_move (.inl rfl)) ?_
 refine ro rfl rfl (ok_call rfl rfl rfl ((by have h := (flag_ok l p4 e4 k4 hl).passR (H := [some (R l p4 e4), some ZZ, some (PsB []), some (ZcB g s f w false 2 0)]) (args := [.ref 0 0 0]) 0 rfl rfl (fun _ => rfl); rw [h5] at h; exact h))) ?_
 refine rs rfl rfl (ok_fieldAddr rfl ti_api_Zone rfl rfl ti_bool (by decide) rfl) ?_
 refine rs rfl rfl (ok_store rfl ti_bool (by decide) rfl rfl rfl rfl rfl (by first | exact Nat.le_of_ble_eq_true rfl | simp) (by first | exact .inl ⟨rfl, rfl⟩ | exact .inr rfl)) ?_
 refine ro_nil ?_
 refine keepK hK5 [0, 2, 3] (by dsimp) (by dsimp) ?_
 refine T.seq fun K6 hK6 => ?_
 refine T.seq fun K7 hK7 => ?_
 refine T.ent (TEnt.toH (tm' := [(0, .ref 0 0 0), (2, .ref 1 0 0), (3, .ref 3 0 0)]) (H' := [some (R l p5 e5), some ZZ, some (PsB []), some (ZcB g s f w wh 2 0)]) rfl ⟨rfl, rfl, rfl, trivial⟩) ?_
 refine T.region ?_
 refine rs rfl rfl (ok_move (.inl rfl)) ?_
 refine ro rfl rfl (ok_call rfl rfl rfl ((by have h := (int_ok l p5 e5 0 2 hB k5 hl).passR (H := [some (R l p5 e5), some ZZ, some (PsB []), some (ZcB g s f w wh 2 0)]) (args := [.ref 0 0 0, .int 0, .int 2]) 0 rfl rfl (fun _ => rfl); rw [h6] at h; exact h))) ?_
 refine rs rfl rfl (ok_move (.inl rfl)) ?_
 refine ro_nil ?_
 refine keepK hK7 [0, 2, 3, 19, 20] (by dsimp) (by dsimp) ?_
 refine T.block ?_
 refine T.loopI (ι := Nat) (fun i => i ≤ n) (fun i => n - i) (fun i => ([(0, .ref 0 0 0), (2, .ref 1 0 0), (3, .ref 3 0 0), (19, .int n), (20, .int i)], [some (R l (pgK l p6 e6 i).2.1 (pgK l p6 e6 i).2.2), some ZZ, some (PsB (pgK l p6 e6 i).1), some (ZcB g s f w wh 2 i)])) 0 (Nat.zero_le _) (TEnt.toH rfl ⟨rfl, rfl, rfl, rfl, rfl, trivial⟩) (fun i hi => ?_) -- loop 1
 have q0 := pgK_le (e := e6) k6 i
 have ql := pgK_len l p6 e6 i
 obtain ⟨⟨ps, a, u⟩, q1⟩ : ∃ q, pgK l p6 e6 i = q := ⟨_, rfl⟩
 obtain ⟨⟨a2, u2, v⟩, q2⟩ : ∃ q, ri l a u 0 1099511627776 = q := ⟨_, rfl⟩
 obtain ⟨⟨a3, u3, x⟩, q3⟩ : ∃ q, rb l a2 u2 1048576 = q := ⟨_, rfl⟩
 have q4 := pgK_succ q1 q2 q3
 rw [q1] at q0 ql
 dsimp only at q0 ql
 have q5 : a2 ≤ l.length := by have := ri_le (e := u) (a := 0) (b := 1099511627776) q0; rw [q2] at this; exact this
 refine T.ent (TEnt.toH (tm' := [(0, .ref 0 0 0), (2, .ref 1 0 0), (3, .ref 3 0 0), (19, .int n), (20, .int i)]) (H' := [some (R l a u), some ZZ, some (PsB ps), some (ZcB g s f w wh 2 i)]) (by rw [q1]) ⟨rfl, rfl, rfl, rfl, rfl, trivial⟩) ?_
 refine T.seq fun K8 hK8 => ?_
 refine T.region ?_
 refine rs rfl rfl (ok_binOp rfl ti_int rfl) ?_
 refine ro_nil ?_
 refine keepK hK8 [0, 2, 3, 19, 20, 21] (by dsimp) (by dsimp) ?_
 refine T.seq fun K9 hK9 => ?_
 refine T.cond rfl (fun hc => ?_) (fun hc => ?_) -- cond 1
 ·(try simp only [dE] at hc)
  refine T.skip ?_
  refine keepK hK9 [0, 2, 3, 19, 20] (by dsimp) (by dsimp) ?_
  refine T.seq fun K10 hK10 => ?_
  refine T.block ?_
  refine T.draw mixed (SH [10] (HeldL ([none, some ZZ, none, some (ZcB g s f w wh 2 i)]))) ?_
  refine any_take 0 rfl (by first | rfl | decide +kernel) rfl (by first | (simp [HeldL]; done) | (simp only [dH]; (repeat' first | trivial | rfl | constructor))) (fun H' hH => OpOk.step (ok_fieldAddr rfl ti_api_Zone rfl rfl ti_Lapi_Par (by decide) rfl)) ?_
  refine any_take 1 rfl (by first | rfl | decide +kernel) rfl (by first | (simp [HeldL]; done) | (simp only [dH]; (repeat' first | trivial | rfl | constructor))) (fun H' hH => OpOk.step (ok_load rfl ti_Lapi_Par (locA_held hH rfl) rfl)) ?_
  refine any_take 2 rfl (by first | rfl | decide +kernel) rfl (by first | (simp [HeldL]; done) | (simp only [dH]; (repeat' first | trivial | rfl | constructor))) (fun H' hH => OpOk.step (ok_move (.inl rfl))) ?_
  refine any_take 4 rfl (by first | rfl | decide +kernel) rfl (by first | (simp [HeldL]; done) | (simp only [dH]; (repeat' first | trivial | rfl | constructor))) (fun H' hH => OpOk.step (ok_move (.inl rfl))) ?_
  refine any_one 3 rfl (by first | rfl | decide +kernel) rfl rfl (ok_call rfl rfl rfl ((by have h := (int_ok l a u 0 1099511627776 hB q0 hl).passR (H := [some (R l a u), some ZZ, some (PsB ps), some (ZcB g s f w wh 2 i)]) (args := [.ref 0 0 0, .int 0, .int 1099511627776]) 0 rfl rfl (fun _ => rfl); rw [q2] at h; exact h))) (.inr (by first | (simp [HeldL]; done) | (simp only [dH]; (repeat' first | trivial | rfl | constructor)))) ?_
  refine any_one 5 rfl (by first | rfl | decide +kernel) rfl rfl (ok_call rfl rfl rfl ((by have h := (bytes_ok l a2 u2 1048576 hB q5 hl).passR (H := [some (R l a2 u2), some ZZ, some (PsB ps), some (ZcB g s f w wh 2 i)]) (args := [.ref 0 0 0, .int 1048576]) 0 rfl rfl (fun _ => by simp [AV.ren, renL_ints]); rw [q3] at h; exact h))) (.inr (by first | (simp [HeldL]; done) | (simp only [dH]; (repeat' first | trivial | rfl | constructor)))) ?_
  refine any_take 6 rfl (by first | rfl | decide +kernel) rfl (by first | (simp [HeldL]; done) | (simp only [dH]; (repeat' first | trivial | rfl | constructor))) (fun H' hH => OpOk.step (ok_build rfl ti_api_Par rfl)) ?_
  refine any_one 7 rfl (by first | rfl | decide +kernel) rfl rfl (OpOk.step (ok_buildSlice (n := 1) (ps := #[(0, .tmp 28)]) rfl ti_Lapi_Par rfl ti_api_Par (by decide) rfl rfl (by decide) rfl rfl rfl)) (.inr (by first | (simp [HeldL]; done) | (simp only [dH]; (repeat' first | trivial | rfl | constructor)))) ?_
  refine any_one 8 rfl (by first | rfl | decide +kernel) rfl rfl (OpOk.step (by exact ok_append_map (fun p => .agg (PrC p)) (xs := ps) (ys := [(⟨v, x⟩ : Pr)]) rfl ti_Lapi_Par rfl ti_api_Par (by decide) (by decide) rfl ti_Lapi_Par (by simp) rfl rfl rfl rfl rfl rfl rfl rfl (by omega) (by simp; omega))) (.inr (by first | (simp [HeldL]; done) | (simp only [dH]; (repeat' first | trivial | rfl | constructor)))) ?_
  refine any_take 9 rfl (by first | rfl | decide +kernel) rfl (by first | (simp [HeldL]; done) | (simp only [dH]; (repeat' first | trivial | rfl | constructor))) (fun H' hH => OpOk.step (ok_fieldAddr rfl ti_api_Zone rfl rfl ti_Lapi_Par (by decide) rfl)) ?_
  refine any_one 10 rfl (by first | rfl | decide +kernel) rfl rfl (OpOk.step (ok_store rfl ti_Lapi_Par (by decide) rfl rfl rfl rfl rfl (by first | exact Nat.le_of_ble_eq_true rfl | simp) (by first | exact .inl ⟨rfl, rfl⟩ | exact .inr rfl))) (.inl (by simp)) ?_
  refine any_done rfl ?_
  refine keepK hK10 [0, 2, 3, 19, 20] (by dsimp) (by dsimp) ?_
  refine T.region ?_
  refine rs rfl rfl (ok_add64 rfl ti_int rfl rfl (by omega) (by omega)) ?_
  refine rs rfl rfl (ok_move (.inl rfl)) ?_
  refine ro_nil ?_
  exact ⟨i + 1, by omega, by omega, TEnt.fin [0, 1, 5, 3] (by decide) (by simp) (by show [some (Blk.ren _ (R l a3 u3)), some (Blk.ren _ ZZ), some (Blk.ren _ (PsB (ps ++ [⟨v, x⟩]))), some (Blk.ren _ (ZcB g s f w wh 5 (ps ++ [(⟨v, x⟩ : Pr)]).length))] = _; rw [R_ren, PsB_ren, ZcB_ren (q := 2) (by decide), q4, List.length_append, ql]; rfl) ⟨rfl, rfl, rfl, rfl, rfl, trivial⟩⟩
 ·(try simp only [dE] at hc)
  have hin : i = n := by omega
  subst hin
  rw [q1] at hQ
  refine T.exit ?_
  refine keepK hK6 [2, 3] (by dsimp) (by dsimp) ?_
  refine T.seq fun K11 hK11 => ?_
  refine T.region ?_
  refine rs rfl rfl (ok_load rfl ti_api_Zone rfl rfl) ?_
  refine rs rfl rfl (ok_store rfl ti_api_Zone (by decide) rfl rfl rfl rfl rfl (by first | exact Nat.le_of_ble_eq_true rfl | simp) (by first | exact .inl ⟨rfl, rfl⟩ | exact .inr rfl)) ?_
  refine ro_nil ?_
  refine keepK hK11 [2] (by dsimp) (by dsimp) ?_
  refine T.ret (hQ _ _ _ rfl ?_).1 -- ret 1
  exact zg_end (z := ⟨g, s, f, w, wh, ps⟩) rfl (by show AV.agg [.int g, .int s, .b f, .int w, .b wh, .sl 2 0 i] = .agg [.int g, .int s, .b f, .int w, .b wh, .sl 2 0 ps.length]; rw [ql]) rfl (fun ρ => R_ren ρ _ _ _) rfl
end Go.Proofs.YtjklgbafnfoolaaGreat.AmF
namespace Go.Proofs.YtjklgbafnfoolaaGreat.AmF
open Go Go.AM
set_option maxRecDepth 100000
set_option maxHeartbeats 4000000
set_option linter.unusedSimpArgs false
set_option linter.unusedVariables false
attribute [local simp] tkeep tget tput ev cav argsTM pickA normT putA splice AV.cells ints_length rowsA_length Prs_len Zns_len
/-- So many statuses read. -/
def stK (l : List Int) (p : Nat) (e : Int) : Nat → List Int × Nat × Int
  | 0 => ([], p, e)
  | i + 1 => ((stK l p e i).1 ++ [(ri l (stK l p e i).2.1 (stK l p e i).2.2 0 2).2.2], (ri l (stK l p e i).2.1 (stK l p e i).2.2 0 2).1, (ri l (stK l p e i).2.1 (stK l p e i).2.2 0 2).2.1)
theorem stK_succ {l : List Int} {p p1 p2 : Nat} {e e1 e2 v : Int} {i : Nat} {st : List Int} (h : stK l p e i = (st, p1, e1)) (h1 : ri l p1 e1 0 2 = (p2, e2, v)) : stK l p e (i + 1) = (st ++ [v], p2, e2) := by
  rw [stK, h]
  dsimp only
  rw [h1]
theorem stK_le {l : List Int} {p : Nat} {e : Int} (hp : p ≤ l.length) : ∀ i, (stK l p e i).2.1 ≤ l.length
  | 0 => hp
  | i + 1 => ri_le (stK_le hp i)
theorem stK_len (l : List Int) (p : Nat) (e : Int) : ∀ i, (stK l p e i).1.length = i
  | 0 => rfl
  | i + 1 => by rw [stK, List.length_append, stK_len l p e i]; rfl
/-- So many zones read. -/
def zsK (l : List Int) (p : Nat) (e : Int) : Nat → List Zn × Nat × Int
  | 0 => ([], p, e)
  | i + 1 => ((zsK l p e i).1 ++ [(zget l (zsK l p e i).2.1 (zsK l p e i).2.2).1], (zget l (zsK l p e i).2.1 (zsK l p e i).2.2).2.1, (zget l (zsK l p e i).2.1 (zsK l p e i).2.2).2.2)
theorem zsK_succ {l : List Int} {p p1 p2 : Nat} {e e1 e2 : Int} {z : Zn} {i : Nat} {zs : List Zn} (h : zsK l p e i = (zs, p1, e1)) (h1 : zget l p1 e1 = (z, p2, e2)) : zsK l p e (i + 1) = (zs ++ [z], p2, e2) := by
  rw [zsK, h]
  dsimp only
  rw [h1]
theorem zsK_le {l : List Int} {p : Nat} {e : Int} (hp : p ≤ l.length) : ∀ i, (zsK l p e i).2.1 ≤ l.length
  | 0 => hp
  | i + 1 => zget_le (zsK_le hp i)
theorem zsK_len (l : List Int) (p : Nat) (e : Int) : ∀ i, (zsK l p e i).1.length = i
  | 0 => rfl
  | i + 1 => by rw [zsK, List.length_append, zsK_len l p e i]; rfl
theorem zget_pars (l : List Int) (p : Nat) (e : Int) : (zget l p e).1.pars.length ≤ 2 := by
  show (pgK l _ _ _).1.length ≤ 2
  rw [pgK_len]
  have := ri_in (l := l) (p := (rf l (ri l (rf l (ri l (ri l p e 0 1099511627776).1 (ri l p e 0 1099511627776).2.1 (-1) 64).1 (ri l (ri l p e 0 1099511627776).1 (ri l p e 0 1099511627776).2.1 (-1) 64).2.1).1 (rf l (ri l (ri l p e 0 1099511627776).1 (ri l p e 0 1099511627776).2.1 (-1) 64).1 (ri l (ri l p e 0 1099511627776).1 (ri l p e 0 1099511627776).2.1 (-1) 64).2.1).2.1 0 1099511627776).1 (ri l (rf l (ri l (ri l p e 0 1099511627776).1 (ri l p e 0 1099511627776).2.1 (-1) 64).1 (ri l (ri l p e 0 1099511627776).1 (ri l p e 0 1099511627776).2.1 (-1) 64).2.1).1 (rf l (ri l (ri l p e 0 1099511627776).1 (ri l p e 0 1099511627776).2.1 (-1) 64).1 (ri l (ri l p e 0 1099511627776).1 (ri l p e 0 1099511627776).2.1 (-1) 64).2.1).2.1 0 1099511627776).2.1).1) (e := (rf l (ri l (rf l (ri l (ri l p e 0 1099511627776).1 (ri l p e 0 1099511627776).2.1 (-1) 64).1 (ri l (ri l p e 0 1099511627776).1 (ri l p e 0 1099511627776).2.1 (-1) 64).2.1).1 (rf l (ri l (ri l p e 0 1099511627776).1 (ri l p e 0 1099511627776).2.1 (-1) 64).1 (ri l (ri l p e 0 1099511627776).1 (ri l p e 0 1099511627776).2.1 (-1) 64).2.1).2.1 0 1099511627776).1 (ri l (rf l (ri l (ri l p e 0 1099511627776).1 (ri l p e 0 1099511627776).2.1 (-1) 64).1 (ri l (ri l p e 0 1099511627776).1 (ri l p e 0 1099511627776).2.1 (-1) 64).2.1).1 (rf l (ri l (ri l p e 0 1099511627776).1 (ri l p e 0 1099511627776).2.1 (-1) 64).1 (ri l (ri l p e 0 1099511627776).1 (ri l p e 0 1099511627776).2.1 (-1) 64).2.1).2.1 0 1099511627776).2.1).2.1) (a := 0) (b := 2) (by omega)
  omega
theorem zsK_pars (l : List Int) (p : Nat) (e : Int) : ∀ i, ∀ z ∈ (zsK l p e i).1, z.pars.length ≤ 2
  | 0, z, hz => by simp [zsK] at hz
  | i + 1, z, hz => by
    rw [zsK] at hz
    rcases List.mem_append.1 hz with hz | hz
    · exact zsK_pars l p e i z hz
    · rw [List.mem_singleton.1 hz]; exact zget_pars l _ _
/-- What lies behind the settings, read. -/
def bodyS (l : List Int) (c : Cf) : St × Nat × Int :=
  let a1 := ri l 0 0 0 1099511627776
  let a2 := ri l a1.1 a1.2.1 0 1099511627776
  let q := stK l a2.1 a2.2.1 c.mem.toNat
  let r := zsK l q.2.1 q.2.2 c.zon.toNat
  (⟨c, a1.2.2, a2.2.2, q.1, r.1⟩, r.2.1, r.2.2)
/-- A state got, and the error. -/
def getS (b : List Int) : St × Int :=
  if b.length < 88 then (St0, 14)
  else if (getC (b.take 88)).2 ≠ 0 ∨ chkC (getC (b.take 88)).1 ≠ 0 then (St0, 13)
  else if (bodyS (b.drop 88) (getC (b.take 88)).1).2.2 ≠ 0 then (St0, (bodyS (b.drop 88) (getC (b.take 88)).1).2.2)
  else if (bodyS (b.drop 88) (getC (b.take 88)).1).2.1 < (b.drop 88).length ∨ ¬ RS (bodyS (b.drop 88) (getC (b.take 88)).1).1 then (St0, 13)
  else ((bodyS (b.drop 88) (getC (b.take 88)).1).1, 0)
section
variable {b : List Int} {c : Cf} {ce : Int}
theorem getS_1 (h : b.length < 88) : getS b = (St0, 14) := if_pos h
theorem getS_2 (h : ¬ b.length < 88) (hc : getC (b.take 88) = (c, ce)) (h2 : ce ≠ 0 ∨ chkC c ≠ 0) : getS b = (St0, 13) := by
  unfold getS; rw [if_neg h, hc, if_pos h2]
theorem getS_3 (h : ¬ b.length < 88) (hc : getC (b.take 88) = (c, 0)) (h2 : chkC c = 0) {s : St} {p : Nat} {e : Int} (hb : bodyS (b.drop 88) c = (s, p, e)) (he : e ≠ 0) : getS b = (St0, e) := by
  unfold getS; rw [if_neg h, hc, if_neg (by simp [h2]), hb, if_pos he]
theorem getS_4 (h : ¬ b.length < 88) (hc : getC (b.take 88) = (c, 0)) (h2 : chkC c = 0) {s : St} {p : Nat} (hb : bodyS (b.drop 88) c = (s, p, 0)) (he : p < (b.drop 88).length ∨ ¬ RS s) : getS b = (St0, 13) := by
  unfold getS; rw [if_neg h, hc, if_neg (by simp [h2]), hb, if_neg (by simp), if_pos he]
theorem getS_5 (h : ¬ b.length < 88) (hc : getC (b.take 88) = (c, 0)) (h2 : chkC c = 0) {s : St} {p : Nat} (hb : bodyS (b.drop 88) c = (s, p, 0)) (he : ¬ (p < (b.drop 88).length ∨ ¬ RS s)) : getS b = (s, 0) := by
  unfold getS; rw [if_neg h, hc, if_neg (by simp [h2]), hb, if_neg (by simp), if_neg he]
end
def IsB (l : List Int) : Blk := ⟨1, true, ints .i64 l⟩
theorem IsB_ren (ρ : Nat → Option Nat) (l : List Int) : Blk.ren ρ (IsB l) = IsB l := by simp [IsB, Blk.ren, renL_ints]
def ZsB (l : List Zn) : Blk := ⟨6, true, Zns l⟩
theorem ZsB_ren (ρ : Nat → Option Nat) (l : List Zn) : Blk.ren ρ (ZsB l) = ZsB l := by simp [ZsB, Blk.ren, Zns_ren]
def SGb (c : Cf) (v1 v2 : Int) (a n b m : Nat) : Blk := SB ⟨c, v1, v2, [], []⟩ (.sl a 0 n) (.sl b 0 m)
theorem SGb_ren {ρ : Nat → Option Nat} {c : Cf} {v1 v2 : Int} {a a' b b' n m : Nat} (ha : ρ a = some a') (hb : ρ b = some b') : some (Blk.ren ρ (SGb c v1 v2 a n b m)) = some (SGb c v1 v2 a' n b' m) := SB_ren ha hb
theorem sget_ok (b : List Int) (hB : Bytes b) (hl : b.length ≤ 140737488355328) : CSpec Tryz.prog 66 [] [.fz 1 (ints .u8 b)] [] (.tup [.agg (StC (getS b).1), .int (getS b).2]) := by
 refine CSpec.body Tryz.func66 rfl rfl rfl rfl rfl fun Q hQ => ?_
 refine T.seq fun K1 hK1 => ?_
 refine T.region ?_
 refine rs rfl rfl (ok_alloc rfl ti_api_State rfl (by decide)) ?_
 refine rs rfl rfl (ok_move (.inr rfl)) ?_
 refine ro_nil ?_
 refine keepK hK1 [0, 2] (by dsimp) (by dsimp) ?_
 refine T.seq fun K2 hK2 => ?_
 refine T.seq fun K3 hK3 => ?_
 refine T.region ?_
 refine rs rfl rfl (ok_move (.inl rfl)) ?_
 refine rs rfl rfl (ok_len' rfl rfl ti_Luint8 rfl (by first | exact ints_length _ _ | exact rowsA_length _ _ | exact Cms_len _ | exact mapLen _ | rfl)) ?_
 refine rs rfl rfl (ok_binOp rfl ti_int rfl) ?_
 refine ro_nil ?_
 refine keepK hK3 [0, 2, 10] (by dsimp) (by dsimp) ?_
 refine T.cond rfl (fun hc => ?_) (fun hc => ?_) -- cond 1
 ·(try simp only [dE] at hc)
  rw [getS_1 (by omega)] at hQ
  refine T.seq fun K4 hK4 => ?_
  refine T.region ?_
  refine rs rfl rfl (ok_build rfl ti_api_State rfl) ?_
  refine rs rfl rfl (ok_store rfl ti_api_State (by decide) rfl rfl rfl rfl rfl (by first | exact Nat.le_of_ble_eq_true rfl | simp) (by first | exact .inl ⟨rfl, rfl⟩ | exact .inr rfl)) ?_
  refine rs rfl rfl (ok_move (.inr rfl)) ?_
  refine ro_nil ?_
  refine keepK hK4 [2, 3] (by dsimp) (by dsimp) ?_
  refine T.ret (hQ _ _ _ rfl ?_).1 -- ret 1
  exact ap_no (e := 14) rfl rfl
 ·(try simp only [dE] at hc)
  have h88 : ¬ b.length < 88 := by omega
  have hB1 : Bytes (b.take 88) := hB.take 88
  obtain ⟨⟨c, ce⟩, hgc⟩ : ∃ q, getC (b.take 88) = q := ⟨_, rfl⟩
  have hget := cget_ok (b.take 88) hB1 (by simp; omega)
  rw [hgc] at hget
  refine T.skip ?_
  refine keepK hK2 [0, 2] (by dsimp) (by dsimp) ?_
  refine T.seq fun K5 hK5 => ?_
  refine T.region ?_
  refine rs rfl rfl (ok_move (.inl rfl)) ?_
  refine ro rfl rfl (OpOk.step ((ok_slice rfl ti_Luint8 (.inl ⟨_, _, rfl, ti_uint8, rfl⟩) (zl := none) (zh := some 88) rfl rfl rfl (r := .fz 1 (ints .u8 (b.take 88))) (by
  have h1 : (88 : Int) ≤ b.length := by omega
  simp [sliceA, h1, ints, List.map_take])))) ?_
  refine ro rfl rfl (ok_call rfl rfl rfl (hget.plain (by simp [renL, AV.ren, renL_ints]) (by show AV.tup (renL _ [.agg (CC c), .int ce]) = _; simp [AV.ren, renL, CC_ren]))) ?_
  refine rs rfl rfl (ok_move (.inl rfl)) ?_
  refine rs rfl rfl (ok_extract rfl rfl rfl) ?_
  refine rs rfl rfl (ok_extract rfl rfl rfl) ?_
  refine rs rfl rfl (ok_alloc rfl ti_api_Conf rfl (by decide)) ?_
  refine rs rfl rfl (ok_store rfl ti_api_Conf (by decide) rfl rfl rfl rfl rfl (by first | exact Nat.le_of_ble_eq_true rfl | simp) (by first | exact .inl ⟨rfl, rfl⟩ | exact .inr rfl)) ?_
  refine rs rfl rfl (ok_move (.inr rfl)) ?_
  refine ro_nil ?_
  refine keepK hK5 [0, 2, 4, 5] (by dsimp) (by dsimp) ?_
  refine T.seq fun K6 hK6 => ?_
  refine T.seq fun K7 hK7 => ?_
  refine T.region ?_
  refine rs rfl rfl (ok_move (.inl rfl)) ?_
  refine rs rfl rfl (ok_binOp rfl ti_api_Errno rfl) ?_
  refine ro_case rfl rfl (OpOk.step (ok_moveb (.inl rfl) rfl)) (fun hb => ?_) (fun hb => ?_)
  ·(try simp only [dE] at hb)
   rw [getS_2 h88 hgc (.inl hb)] at hQ
   refine ro_skip rfl rfl ?_
   refine ro_skip rfl rfl ?_
   refine ro_skip rfl rfl ?_
   refine rs rfl rfl (ok_pickb (t := true) (d := true) rfl rfl rfl) ?_
   refine ro_nil ?_
   refine keepK hK7 [0, 2, 4, 24] (by dsimp) (by dsimp) ?_
   refine T.cond_true rfl ?_
   refine T.seq fun K8 hK8 => ?_
   refine T.region ?_
   refine rs rfl rfl (ok_build rfl ti_api_State rfl) ?_
   refine rs rfl rfl (ok_store rfl ti_api_State (by decide) rfl rfl rfl rfl rfl (by first | exact Nat.le_of_ble_eq_true rfl | simp) (by first | exact .inl ⟨rfl, rfl⟩ | exact .inr rfl)) ?_
   refine rs rfl rfl (ok_move (.inr rfl)) ?_
   refine ro_nil ?_
   refine keepK hK8 [2, 3] (by dsimp) (by dsimp) ?_
   refine T.ret (hQ _ _ _ rfl ?_).1 -- ret 2
   exact ap_no (e := 13) rfl rfl
  ·(try simp only [dE] at hb)
   refine rs rfl rfl (ok_load rfl ti_api_Conf rfl rfl) ?_
   refine ro rfl rfl (ok_call rfl rfl rfl ((check_ok c).plain (by show renL _ [.agg (CC c)] = _; simp [renL, AV.ren, CC_ren]) rfl)) ?_
   refine rs rfl rfl (ok_binOp rfl ti_api_Errno rfl) ?_
   refine rs rfl rfl (ok_pick rfl rfl) ?_
   refine ro_nil ?_
   refine keepK hK7 [0, 2, 4, 24] (by dsimp) (by dsimp) ?_
   refine T.cond rfl (fun hc => ?_) (fun hc => ?_) -- cond 2
   ·(try simp only [dE] at hc)
    rw [getS_2 h88 hgc (.inr hc)] at hQ
    refine T.seq fun K9 hK9 => ?_
    refine T.region ?_
    refine rs rfl rfl (ok_build rfl ti_api_State rfl) ?_
    refine rs rfl rfl (ok_store rfl ti_api_State (by decide) rfl rfl rfl rfl rfl (by first | exact Nat.le_of_ble_eq_true rfl | simp) (by first | exact .inl ⟨rfl, rfl⟩ | exact .inr rfl)) ?_
    refine rs rfl rfl (ok_move (.inr rfl)) ?_
    refine ro_nil ?_
    refine keepK hK9 [2, 3] (by dsimp) (by dsimp) ?_
    refine T.ret (hQ _ _ _ rfl ?_).1 -- ret 3
    exact ap_no (e := 13) rfl rfl
   ·(try simp only [dE] at hc)
    obtain rfl : ce = 0 := hb
    have hck := hc
    have hk := chkC_ok hck
    obtain ⟨m, hm⟩ : ∃ m : Nat, c.mem = m := ⟨c.mem.toNat, by have := hk.2.1; omega⟩
    obtain ⟨n, hn⟩ : ∃ n : Nat, c.zon = n := ⟨c.zon.toNat, by unfold okC at hk; omega⟩
    have hmb : m ≤ 16 := by have := hk.2.1; omega
    have hnb : n ≤ 64 := by unfold okC at hk; omega
    obtain ⟨l, hle⟩ : ∃ l, b.drop 88 = l := ⟨_, rfl⟩
    have hB2 : Bytes l := by rw [← hle]; exact hB.drop 88
    have hl2 : l.length ≤ 140737488355328 := by rw [← hle]; simp; omega
    obtain ⟨⟨p1, e1, v1⟩, h1⟩ : ∃ q, ri l 0 0 0 1099511627776 = q := ⟨_, rfl⟩
    obtain ⟨⟨p2, e2, v2⟩, h2⟩ : ∃ q, ri l p1 e1 0 1099511627776 = q := ⟨_, rfl⟩
    have k1 : p1 ≤ l.length := by have := ri_le (l := l) (p := 0) (e := 0) (a := 0) (b := 1099511627776) (Nat.zero_le _); rw [h1] at this; exact this
    have k2 : p2 ≤ l.length := by have := ri_le (e := e1) (a := 0) (b := 1099511627776) k1; rw [h2] at this; exact this
    obtain ⟨⟨st, p3, e3⟩, h3⟩ : ∃ q, stK l p2 e2 m = q := ⟨_, rfl⟩
    have k3 : p3 ≤ l.length := by have := stK_le (e := e2) k2 m; rw [h3] at this; exact this
    obtain ⟨⟨zs, p4, e4⟩, h4⟩ : ∃ q, zsK l p3 e3 n = q := ⟨_, rfl⟩
    have k4 : p4 ≤ l.length := by have := zsK_le (e := e3) k3 n; rw [h4] at this; exact this
    have hstl : st.length = m := by have := stK_len l p2 e2 m; rw [h3] at this; exact this
    have hzsl : zs.length = n := by have := zsK_len l p3 e3 n; rw [h4] at this; exact this
    have hzp : ∀ z ∈ zs, z.pars.length ≤ 2 := by have := zsK_pars l p3 e3 n; rw [h4] at this; exact this
    have hbody : bodyS (b.drop 88) c = (⟨c, v1, v2, st, zs⟩, p4, e4) := by
      have e5 : c.mem.toNat = m := by omega
      have e6 : c.zon.toNat = n := by omega
      rw [hle]
      unfold bodyS
      simp only [h1, h2, e5, e6, h3, h4]
    refine T.skip ?_
    refine keepK hK6 [0, 2, 4] (by dsimp) (by dsimp) ?_
    refine T.seq fun K10 hK10 => ?_
    refine T.region ?_
    refine rs rfl rfl (ok_move (.inl rfl)) ?_
    refine ro rfl rfl (OpOk.step ((ok_slice rfl ti_Luint8 (.inl ⟨_, _, rfl, ti_uint8, rfl⟩) (zl := some 88) (zh := none) rfl rfl rfl (r := .fz 1 (ints .u8 l)) (by
  have h1 : (88 : Int) ≤ b.length := by omega
  rw [← hle]
  simp [sliceA, h1, ints, List.map_drop, List.take_of_length_le])))) ?_
    refine ro rfl rfl (ok_call rfl rfl rfl ((new_ok l hl2).fresh (x' := .ref 2 0 0) (H' := [some (R l 0 0)]) (by simp [renL, AV.ren, renL_ints]) rfl (by simp [renH, R_ren]))) ?_
    refine rs rfl rfl (ok_move (.inr rfl)) ?_
    refine ro_nil ?_
    refine keepK hK10 [2, 4, 6] (by dsimp) (by dsimp) ?_
    refine T.seq fun K11 hK11 => ?_
    refine T.join hK11 [(2, .ref 0 0 0), (4, .ref 1 0 0), (6, .ref 2 0 0), (7, .ref 5 0 0)] [some Z15, some (CB c), some (R l p2 e2), some (IsB []), some (ZsB []), some (SGb c v1 v2 3 0 4 0)] (fun hJ12 => ?_) ?_
    ·
     refine T.draw mixed (SH [7] (HeldL ([none, some (CB c)]))) ?_
     refine any_take 0 rfl (by first | rfl | decide +kernel) rfl (by first | (simp [HeldL]; done) | (simp only [dH]; (repeat' first | trivial | rfl | constructor))) (fun H' hH => OpOk.step (ok_load rfl ti_api_Conf (locA_held hH rfl) rfl)) ?_
     refine any_take 1 rfl (by first | rfl | decide +kernel) rfl (by first | (simp [HeldL]; done) | (simp only [dH]; (repeat' first | trivial | rfl | constructor))) (fun H' hH => OpOk.step (ok_move (.inl rfl))) ?_
     refine any_take 3 rfl (by first | rfl | decide +kernel) rfl (by first | (simp [HeldL]; done) | (simp only [dH]; (repeat' first | trivial | rfl | constructor))) (fun H' hH => OpOk.step (ok_move (.inl rfl))) ?_
     refine any_many [2, 6] (by first | rfl | decide +kernel) (by decide) (fun k hk => ?_)
     simp only [List.mem_cons, List.not_mem_nil, or_false] at hk
     rcases hk with rfl | rfl
     ·
      refine step_one rfl rfl rfl (ok_call rfl rfl rfl ((by have h := int_ok l 0 0 0 1099511627776 hB2 (Nat.zero_le _) hl2; rw [h1] at h; exact h.passR 2 rfl rfl (fun _ => rfl)))) (.inr (by first | (simp [HeldL]; done) | (simp only [dH]; (repeat' first | trivial | rfl | constructor)))) ?_
      refine any_many [4, 6] (by first | rfl | decide +kernel) (by decide) (fun k hk => ?_)
      simp only [List.mem_cons, List.not_mem_nil, or_false] at hk
      rcases hk with rfl | rfl
      ·
       refine step_one rfl rfl rfl (ok_call rfl rfl rfl ((by have h := int_ok l p1 e1 0 1099511627776 hB2 k1 hl2; rw [h2] at h; exact h.passR 2 rfl rfl (fun _ => rfl)))) (.inr (by first | (simp [HeldL]; done) | (simp only [dH]; (repeat' first | trivial | rfl | constructor)))) ?_
       refine any_many [5, 6] (by first | rfl | decide +kernel) (by decide) (fun k hk => ?_)
       simp only [List.mem_cons, List.not_mem_nil, or_false] at hk
       rcases hk with rfl | rfl
       ·
        refine step_one rfl rfl rfl (OpOk.step (((ok_build rfl ti_api_State rfl).eq (x' := .agg (StS ⟨c, v1, v2, [], []⟩ (.v (.slice none 0 0)) (.v (.slice none 0 0)))) rfl rfl).tent ((emptyAt11 0 13 1 (by decide) rfl rfl).trans ((emptyAt11 0 14 6 (by decide) rfl rfl).trans (TEnt.to ⟨rfl, trivial⟩))))) (.inr (by first | (simp [HeldL]; done) | (simp only [dH]; (repeat' first | trivial | rfl | constructor)))) ?_
        refine any_one 6 rfl (by first | rfl | decide +kernel) rfl rfl (OpOk.step (ok_alloc rfl ti_api_State rfl (by decide))) (.inr (by first | (simp [HeldL]; done) | (simp only [dH]; (repeat' first | trivial | rfl | constructor)))) ?_
        refine any_one 7 rfl (by first | rfl | decide +kernel) rfl rfl (OpOk.step (ok_store rfl ti_api_State (by decide) rfl rfl rfl rfl rfl (by first | exact Nat.le_of_ble_eq_true rfl | simp) (by first | exact .inl ⟨rfl, rfl⟩ | exact .inr rfl))) (.inl (by simp)) ?_
        refine any_done rfl ?_
        first | exact hJ12 _ _ (TEnt.fin [0, 1, 2, 3, 4, 5] (by decide) (by simp) (heap6 rfl (congrArg some (CB_ren _ _)) (congrArg some (R_ren _ _ _ _)) rfl rfl (SGb_ren (a := 3) (b := 4) (by decide) (by decide))) ⟨rfl, rfl, rfl, rfl, trivial⟩) | exact hJ12 _ _ (TEnt.fin [0, 1, 2, 4, 5, 3] (by decide) (by simp) (heap6 rfl (congrArg some (CB_ren _ _)) (congrArg some (R_ren _ _ _ _)) rfl rfl (SGb_ren (a := 4) (b := 5) (by decide) (by decide))) ⟨rfl, rfl, rfl, rfl, trivial⟩)
       ·
        refine step_one rfl rfl rfl (OpOk.step (ok_alloc rfl ti_api_State rfl (by decide))) (.inr (by first | (simp [HeldL]; done) | (simp only [dH]; (repeat' first | trivial | rfl | constructor)))) ?_
        refine any_one 5 rfl (by first | rfl | decide +kernel) rfl rfl (OpOk.step (((ok_build rfl ti_api_State rfl).eq (x' := .agg (StS ⟨c, v1, v2, [], []⟩ (.v (.slice none 0 0)) (.v (.slice none 0 0)))) rfl rfl).tent ((emptyAt11 0 13 1 (by decide) rfl rfl).trans ((emptyAt11 0 14 6 (by decide) rfl rfl).trans (TEnt.to ⟨rfl, trivial⟩))))) (.inr (by first | (simp [HeldL]; done) | (simp only [dH]; (repeat' first | trivial | rfl | constructor)))) ?_
        refine any_one 7 rfl (by first | rfl | decide +kernel) rfl rfl (OpOk.step (ok_store rfl ti_api_State (by decide) rfl rfl rfl rfl rfl (by first | exact Nat.le_of_ble_eq_true rfl | simp) (by first | exact .inl ⟨rfl, rfl⟩ | exact .inr rfl))) (.inl (by simp)) ?_
        refine any_done rfl ?_
        first | exact hJ12 _ _ (TEnt.fin [0, 1, 2, 3, 4, 5] (by decide) (by simp) (heap6 rfl (congrArg some (CB_ren _ _)) (congrArg some (R_ren _ _ _ _)) rfl rfl (SGb_ren (a := 3) (b := 4) (by decide) (by decide))) ⟨rfl, rfl, rfl, rfl, trivial⟩) | exact hJ12 _ _ (TEnt.fin [0, 1, 2, 4, 5, 3] (by decide) (by simp) (heap6 rfl (congrArg some (CB_ren _ _)) (congrArg some (R_ren _ _ _ _)) rfl rfl (SGb_ren (a := 4) (b := 5) (by decide) (by decide))) ⟨rfl, rfl, rfl, rfl, trivial⟩)
      ·
       refine step_one rfl rfl rfl (OpOk.step (ok_alloc rfl ti_api_State rfl (by decide))) (.inr (by first | (simp [HeldL]; done) | (simp only [dH]; (repeat' first | trivial | rfl | constructor)))) ?_
       refine any_one 4 rfl (by first | rfl | decide +kernel) rfl rfl (ok_call rfl rfl rfl ((by have h := int_ok l p1 e1 0 1099511627776 hB2 k1 hl2; rw [h2] at h; exact h.passR 2 rfl rfl (fun _ => rfl)))) (.inr (by first | (simp [HeldL]; done) | (simp only [dH]; (repeat' first | trivial | rfl | constructor)))) ?_
       refine any_one 5 rfl (by first | rfl | decide +kernel) rfl rfl (OpOk.step (((ok_build rfl ti_api_State rfl).eq (x' := .agg (StS ⟨c, v1, v2, [], []⟩ (.v (.slice none 0 0)) (.v (.slice none 0 0)))) rfl rfl).tent ((emptyAt11 0 13 1 (by decide) rfl rfl).trans ((emptyAt11 0 14 6 (by decide) rfl rfl).trans (TEnt.to ⟨rfl, trivial⟩))))) (.inr (by first | (simp [HeldL]; done) | (simp only [dH]; (repeat' first | trivial | rfl | constructor)))) ?_
       refine any_one 7 rfl (by first | rfl | decide +kernel) rfl rfl (OpOk.step (ok_store rfl ti_api_State (by decide) rfl rfl rfl rfl rfl (by first | exact Nat.le_of_ble_eq_true rfl | simp) (by first | exact .inl ⟨rfl, rfl⟩ | exact .inr rfl))) (.inl (by simp)) ?_
       refine any_done rfl ?_
       first | exact hJ12 _ _ (TEnt.fin [0, 1, 2, 3, 4, 5] (by decide) (by simp) (heap6 rfl (congrArg some (CB_ren _ _)) (congrArg some (R_ren _ _ _ _)) rfl rfl (SGb_ren (a := 3) (b := 4) (by decide) (by decide))) ⟨rfl, rfl, rfl, rfl, trivial⟩) | exact hJ12 _ _ (TEnt.fin [0, 1, 2, 4, 5, 3] (by decide) (by simp) (heap6 rfl (congrArg some (CB_ren _ _)) (congrArg some (R_ren _ _ _ _)) rfl rfl (SGb_ren (a := 4) (b := 5) (by decide) (by decide))) ⟨rfl, rfl, rfl, rfl, trivial⟩)
     ·
      refine step_one rfl rfl rfl (OpOk.step (ok_alloc rfl ti_api_State rfl (by decide))) (.inr (by first | (simp [HeldL]; done) | (simp only [dH]; (repeat' first | trivial | rfl | constructor)))) ?_
      refine any_one 2 rfl (by first | rfl | decide +kernel) rfl rfl (ok_call rfl rfl rfl ((by have h := int_ok l 0 0 0 1099511627776 hB2 (Nat.zero_le _) hl2; rw [h1] at h; exact h.passR 2 rfl rfl (fun _ => rfl)))) (.inr (by first | (simp [HeldL]; done) | (simp only [dH]; (repeat' first | trivial | rfl | constructor)))) ?_
      refine any_one 4 rfl (by first | rfl | decide +kernel) rfl rfl (ok_call rfl rfl rfl ((by have h := int_ok l p1 e1 0 1099511627776 hB2 k1 hl2; rw [h2] at h; exact h.passR 2 rfl rfl (fun _ => rfl)))) (.inr (by first | (simp [HeldL]; done) | (simp only [dH]; (repeat' first | trivial | rfl | constructor)))) ?_
      refine any_one 5 rfl (by first | rfl | decide +kernel) rfl rfl (OpOk.step (((ok_build rfl ti_api_State rfl).eq (x' := .agg (StS ⟨c, v1, v2, [], []⟩ (.v (.slice none 0 0)) (.v (.slice none 0 0)))) rfl rfl).tent ((emptyAt11 0 13 1 (by decide) rfl rfl).trans ((emptyAt11 0 14 6 (by decide) rfl rfl).trans (TEnt.to ⟨rfl, trivial⟩))))) (.inr (by first | (simp [HeldL]; done) | (simp only [dH]; (repeat' first | trivial | rfl | constructor)))) ?_
      refine any_one 7 rfl (by first | rfl | decide +kernel) rfl rfl (OpOk.step (ok_store rfl ti_api_State (by decide) rfl rfl rfl rfl rfl (by first | exact Nat.le_of_ble_eq_true rfl | simp) (by first | exact .inl ⟨rfl, rfl⟩ | exact .inr rfl))) (.inl (by simp)) ?_
      refine any_done rfl ?_
      first | exact hJ12 _ _ (TEnt.fin [0, 1, 2, 3, 4, 5] (by decide) (by simp) (heap6 rfl (congrArg some (CB_ren _ _)) (congrArg some (R_ren _ _ _ _)) rfl rfl (SGb_ren (a := 3) (b := 4) (by decide) (by decide))) ⟨rfl, rfl, rfl, rfl, trivial⟩) | exact hJ12 _ _ (TEnt.fin [0, 1, 2, 4, 5, 3] (by decide) (by simp) (heap6 rfl (congrArg some (CB_ren _ _)) (congrArg some (R_ren _ _ _ _)) rfl rfl (SGb_ren (a := 4) (b := 5) (by decide) (by decide))) ⟨rfl, rfl, rfl, rfl, trivial⟩)
    refine T.seq fun K13 hK13 => ?_
    refine T.seq fun K14 hK14 => ?_
    refine T.region ?_
    refine rs rfl rfl (ok_fieldAddr rfl ti_api_Conf rfl rfl ti_int (by decide) rfl) ?_
    refine rs rfl rfl ((ok_load rfl ti_int rfl rfl).eq (x' := .int m) (by show AV.int c.mem = _; rw [hm]) rfl) ?_
    refine rs rfl rfl (ok_move (.inl rfl)) ?_
    refine ro_nil ?_
    refine keepK hK14 [2, 4, 6, 7, 36, 37] (by dsimp) (by dsimp) ?_
    refine T.block ?_
    refine T.loopI (ι := Nat) (fun i => i ≤ m) (fun i => m - i) (fun i => ([(2, .ref 0 0 0), (4, .ref 1 0 0), (6, .ref 2 0 0), (7, .ref 5 0 0), (36, .int m), (37, .int i)], [some Z15, some (CB c), some (R l (stK l p2 e2 i).2.1 (stK l p2 e2 i).2.2), some (IsB (stK l p2 e2 i).1), some (ZsB []), some (SGb c v1 v2 3 i 4 0)])) 0 (Nat.zero_le _) (TEnt.toH rfl ⟨rfl, rfl, rfl, rfl, rfl, rfl, trivial⟩) (fun i hi => ?_) -- loop 1
    have q0 := stK_le (e := e2) k2 i
    have ql := stK_len l p2 e2 i
    obtain ⟨⟨sk, a, u⟩, q1⟩ : ∃ q, stK l p2 e2 i = q := ⟨_, rfl⟩
    obtain ⟨⟨a2, u2, v⟩, q2⟩ : ∃ q, ri l a u 0 2 = q := ⟨_, rfl⟩
    have q4 := stK_succ q1 q2
    rw [q1] at q0 ql
    dsimp only at q0 ql
    refine T.ent (TEnt.toH (tm' := [(2, .ref 0 0 0), (4, .ref 1 0 0), (6, .ref 2 0 0), (7, .ref 5 0 0), (36, .int m), (37, .int i)]) (H' := [some Z15, some (CB c), some (R l a u), some (IsB sk), some (ZsB []), some (SGb c v1 v2 3 i 4 0)]) (by rw [q1]) ⟨rfl, rfl, rfl, rfl, rfl, rfl, trivial⟩) ?_
    refine T.seq fun K15 hK15 => ?_
    refine T.region ?_
    refine rs rfl rfl (ok_binOp rfl ti_int rfl) ?_
    refine ro_nil ?_
    refine keepK hK15 [2, 4, 6, 7, 36, 37, 38] (by dsimp) (by dsimp) ?_
    refine T.seq fun K16 hK16 => ?_
    refine T.cond rfl (fun hc => ?_) (fun hc => ?_) -- cond 3
    ·(try simp only [dE] at hc)
     refine T.skip ?_
     refine keepK hK16 [2, 4, 6, 7, 36, 37] (by dsimp) (by dsimp) ?_
     refine T.seq fun K17 hK17 => ?_
     refine T.block ?_
     refine T.draw mixed (SH [7] (HeldL ([none, none, none, none, none, some (SGb c v1 v2 3 i 4 0)]))) ?_
     refine any_take 0 rfl (by first | rfl | decide +kernel) rfl (by first | (simp [HeldL]; done) | (simp only [dH]; (repeat' first | trivial | rfl | constructor))) (fun H' hH => OpOk.step (ok_fieldAddr rfl ti_api_State rfl rfl ti_Lint (by decide) rfl)) ?_
     refine any_take 1 rfl (by first | rfl | decide +kernel) rfl (by first | (simp [HeldL]; done) | (simp only [dH]; (repeat' first | trivial | rfl | constructor))) (fun H' hH => OpOk.step (ok_load rfl ti_Lint (locA_held hH rfl) rfl)) ?_
     refine any_take 2 rfl (by first | rfl | decide +kernel) rfl (by first | (simp [HeldL]; done) | (simp only [dH]; (repeat' first | trivial | rfl | constructor))) (fun H' hH => OpOk.step (ok_move (.inl rfl))) ?_
     refine any_one 3 rfl (by first | rfl | decide +kernel) rfl rfl (ok_call rfl rfl rfl ((by have h := int_ok l a u 0 2 hB2 q0 hl2; rw [q2] at h; exact h.passR 2 rfl rfl (fun _ => rfl)))) (.inr (by first | (simp [HeldL]; done) | (simp only [dH]; (repeat' first | trivial | rfl | constructor)))) ?_
     refine any_one 4 rfl (by first | rfl | decide +kernel) rfl rfl (OpOk.step (ok_buildSlice (n := 1) (ps := #[(0, .tmp 42)]) rfl ti_Lint rfl ti_int (by decide) rfl rfl (by decide) rfl rfl rfl)) (.inr (by first | (simp [HeldL]; done) | (simp only [dH]; (repeat' first | trivial | rfl | constructor)))) ?_
     refine any_one 5 rfl (by first | rfl | decide +kernel) rfl rfl (OpOk.step (by exact ok_append_ints (k := .i64) (xs := sk) (ys := [v]) rfl ti_Lint rfl ti_int rfl (by decide) rfl ti_Lint (by simp) rfl rfl rfl rfl rfl rfl rfl rfl (by omega) (by simp; omega))) (.inr (by first | (simp [HeldL]; done) | (simp only [dH]; (repeat' first | trivial | rfl | constructor)))) ?_
     refine any_take 6 rfl (by first | rfl | decide +kernel) rfl (by first | (simp [HeldL]; done) | (simp only [dH]; (repeat' first | trivial | rfl | constructor))) (fun H' hH => OpOk.step (ok_fieldAddr rfl ti_api_State rfl rfl ti_Lint (by decide) rfl)) ?_
     refine any_one 7 rfl (by first | rfl | decide +kernel) rfl rfl (OpOk.step (ok_store rfl ti_Lint (by decide) rfl rfl rfl rfl rfl (by first | exact Nat.le_of_ble_eq_true rfl | simp) (by first | exact .inl ⟨rfl, rfl⟩ | exact .inr rfl))) (.inl (by simp)) ?_
     refine any_done rfl ?_
     refine keepK hK17 [2, 4, 6, 7, 36, 37] (by dsimp) (by dsimp) ?_
     refine T.region ?_
     refine rs rfl rfl (ok_add64 rfl ti_int rfl rfl (by omega) (by omega)) ?_
     refine rs rfl rfl (ok_move (.inl rfl)) ?_
     refine ro_nil ?_
     exact ⟨i + 1, by omega, by omega, TEnt.fin [0, 1, 2, 7, 4, 5] (by decide) (by simp) (by show [some (Blk.ren _ Z15), some (Blk.ren _ (CB c)), some (Blk.ren _ (R l a2 u2)), some (Blk.ren _ (IsB (sk ++ [v]))), some (Blk.ren _ (ZsB [])), some (Blk.ren _ (SGb c v1 v2 7 (sk ++ [v]).length 4 0))] = _; rw [R_ren, CB_ren, IsB_ren, ZsB_ren, SGb_ren (a' := 3) (b' := 4) (by decide) (by decide), q4, List.length_append, ql]; rfl) ⟨rfl, rfl, rfl, rfl, rfl, rfl, trivial⟩⟩
    ·(try simp only [dE] at hc)
     obtain rfl : i = m := by omega
     obtain ⟨rfl, rfl, rfl⟩ : sk = st ∧ a = p3 ∧ u = e3 := by rw [q1] at h3; cases h3; exact ⟨rfl, rfl, rfl⟩
     obtain ⟨M, hM⟩ : ∃ M, M = i := ⟨_, rfl⟩
     subst hM
     refine T.exit ?_
     refine keepK hK13 [2, 4, 6, 7] (by dsimp) (by dsimp) ?_
     refine T.seq fun K18 hK18 => ?_
     refine T.seq fun K19 hK19 => ?_
     refine T.region ?_
     refine rs rfl rfl (ok_fieldAddr rfl ti_api_Conf rfl rfl ti_int (by decide) rfl) ?_
     refine rs rfl rfl ((ok_load rfl ti_int rfl rfl).eq (x' := .int n) (by show AV.int c.zon = _; rw [hn]) rfl) ?_
     refine rs rfl rfl (ok_move (.inl rfl)) ?_
     refine ro_nil ?_
     refine keepK hK19 [2, 6, 7, 48, 49] (by dsimp) (by dsimp) ?_
     refine T.block ?_
     refine T.loopI (ι := Nat) (fun k => k ≤ n) (fun k => n - k) (fun k => ([(2, .ref 0 0 0), (6, .ref 2 0 0), (7, .ref 5 0 0), (48, .int n), (49, .int k)], [some Z15, some (CB c), some (R l (zsK l a u k).2.1 (zsK l a u k).2.2), some (IsB sk), some (ZsB (zsK l a u k).1), some (SGb c v1 v2 3 M 4 k)])) 0 (Nat.zero_le _) (TEnt.toH rfl ⟨rfl, rfl, rfl, rfl, rfl, trivial⟩) (fun i hi => ?_) -- loop 2
     have r0 := zsK_le (e := u) q0 i
     have rl := zsK_len l a u i
     obtain ⟨⟨zk, x, y⟩, r1⟩ : ∃ q, zsK l a u i = q := ⟨_, rfl⟩
     obtain ⟨⟨z, x2, y2⟩, r2⟩ : ∃ q, zget l x y = q := ⟨_, rfl⟩
     have r4 := zsK_succ r1 r2
     rw [r1] at r0 rl
     dsimp only at r0 rl
     refine T.ent (TEnt.toH (tm' := [(2, .ref 0 0 0), (6, .ref 2 0 0), (7, .ref 5 0 0), (48, .int n), (49, .int i)]) (H' := [some Z15, some (CB c), some (R l x y), some (IsB sk), some (ZsB zk), some (SGb c v1 v2 3 M 4 i)]) (by rw [r1]) ⟨rfl, rfl, rfl, rfl, rfl, trivial⟩) ?_
     refine T.seq fun K20 hK20 => ?_
     refine T.region ?_
     refine rs rfl rfl (ok_binOp rfl ti_int rfl) ?_
     refine ro_nil ?_
     refine keepK hK20 [2, 6, 7, 48, 49, 50] (by dsimp) (by dsimp) ?_
     refine T.seq fun K21 hK21 => ?_
     refine T.cond rfl (fun hc => ?_) (fun hc => ?_) -- cond 4
     ·(try simp only [dE] at hc)
      refine T.skip ?_
      refine keepK hK21 [2, 6, 7, 48, 49] (by dsimp) (by dsimp) ?_
      refine T.seq fun K22 hK22 => ?_
      refine T.block ?_
      refine T.draw mixed (SH [7] (HeldL ([none, none, none, none, none, some (SGb c v1 v2 3 M 4 i)]))) ?_
      refine any_take 0 rfl (by first | rfl | decide +kernel) rfl (by first | (simp [HeldL]; done) | (simp only [dH]; (repeat' first | trivial | rfl | constructor))) (fun H' hH => OpOk.step (ok_fieldAddr rfl ti_api_State rfl rfl ti_Lapi_Zone (by decide) rfl)) ?_
      refine any_take 1 rfl (by first | rfl | decide +kernel) rfl (by first | (simp [HeldL]; done) | (simp only [dH]; (repeat' first | trivial | rfl | constructor))) (fun H' hH => OpOk.step (ok_load rfl ti_Lapi_Zone (locA_held hH rfl) rfl)) ?_
      refine any_take 2 rfl (by first | rfl | decide +kernel) rfl (by first | (simp [HeldL]; done) | (simp only [dH]; (repeat' first | trivial | rfl | constructor))) (fun H' hH => OpOk.step (ok_move (.inl rfl))) ?_
      refine any_one 3 rfl (by first | rfl | decide +kernel) rfl rfl (ok_call rfl rfl rfl ((by have h := zget_ok l x y hB2 r0 hl2; rw [r2] at h; exact h.passR 2 rfl rfl (fun _ => by simp [AV.ren, ZnC_ren])))) (.inr (by first | (simp [HeldL]; done) | (simp only [dH]; (repeat' first | trivial | rfl | constructor)))) ?_
      refine any_one 4 rfl (by first | rfl | decide +kernel) rfl rfl (OpOk.step (ok_buildSlice (n := 1) (ps := #[(0, .tmp 54)]) rfl ti_Lapi_Zone rfl ti_api_Zone (by decide) rfl rfl (by decide) rfl rfl rfl)) (.inr (by first | (simp [HeldL]; done) | (simp only [dH]; (repeat' first | trivial | rfl | constructor)))) ?_
      refine any_one 5 rfl (by first | rfl | decide +kernel) rfl rfl (OpOk.step (by exact ok_append_map (fun z => .agg (ZnC z)) (xs := zk) (ys := [z]) rfl ti_Lapi_Zone rfl ti_api_Zone (by decide) (by decide) rfl ti_Lapi_Zone (by simp) rfl rfl rfl rfl rfl rfl rfl rfl (by omega) (by simp; omega))) (.inr (by first | (simp [HeldL]; done) | (simp only [dH]; (repeat' first | trivial | rfl | constructor)))) ?_
      refine any_take 6 rfl (by first | rfl | decide +kernel) rfl (by first | (simp [HeldL]; done) | (simp only [dH]; (repeat' first | trivial | rfl | constructor))) (fun H' hH => OpOk.step (ok_fieldAddr rfl ti_api_State rfl rfl ti_Lapi_Zone (by decide) rfl)) ?_
      refine any_one 7 rfl (by first | rfl | decide +kernel) rfl rfl (OpOk.step (ok_store rfl ti_Lapi_Zone (by decide) rfl rfl rfl rfl rfl (by first | exact Nat.le_of_ble_eq_true rfl | simp) (by first | exact .inl ⟨rfl, rfl⟩ | exact .inr rfl))) (.inl (by simp)) ?_
      refine any_done rfl ?_
      refine keepK hK22 [2, 6, 7, 48, 49] (by dsimp) (by dsimp) ?_
      refine T.region ?_
      refine rs rfl rfl (ok_add64 rfl ti_int rfl rfl (by omega) (by omega)) ?_
      refine rs rfl rfl (ok_move (.inl rfl)) ?_
      refine ro_nil ?_
      exact ⟨i + 1, by omega, by omega, TEnt.fin [0, 1, 2, 3, 7, 5] (by decide) (by simp) (by show [some (Blk.ren _ Z15), some (Blk.ren _ (CB c)), some (Blk.ren _ (R l x2 y2)), some (Blk.ren _ (IsB sk)), some (Blk.ren _ (ZsB (zk ++ [z]))), some (Blk.ren _ (SGb c v1 v2 3 M 7 (zk ++ [z]).length))] = _; rw [R_ren, CB_ren, IsB_ren, ZsB_ren, SGb_ren (a' := 3) (b' := 4) (by decide) (by decide), r4, List.length_append, rl]; rfl) ⟨rfl, rfl, rfl, rfl, rfl, trivial⟩⟩
     ·(try simp only [dE] at hc)
      obtain rfl : i = n := by omega
      obtain ⟨rfl, rfl, rfl⟩ : zk = zs ∧ x = p4 ∧ y = e4 := by rw [r1] at h4; cases h4; exact ⟨rfl, rfl, rfl⟩
      refine T.exit ?_
      refine keepK hK18 [2, 6, 7] (by dsimp) (by dsimp) ?_
      refine T.seq fun K23 hK23 => ?_
      refine T.block ?_
      refine T.seq fun K24 hK24 => ?_
      refine T.region ?_
      refine rs rfl rfl (ok_move (.inl rfl)) ?_
      refine ro rfl rfl (ok_call rfl rfl rfl ((err_ok l x y).passR 2 rfl rfl (fun _ => rfl))) ?_
      refine rs rfl rfl (ok_binOp rfl ti_api_Errno rfl) ?_
      refine rs rfl rfl (ok_move (.inr rfl)) ?_
      refine ro_nil ?_
      refine keepK hK24 [2, 6, 7, 59] (by dsimp) (by dsimp) ?_
      refine T.cond rfl (fun hc => ?_) (fun hc => ?_) -- cond 5
      ·(try simp only [dE] at hc)
       rw [getS_3 h88 hgc hck hbody hc] at hQ
       refine T.seq fun K25 hK25 => ?_
       refine T.region ?_
       refine rs rfl rfl (ok_build rfl ti_api_State rfl) ?_
       refine rs rfl rfl (ok_move (.inl rfl)) ?_
       refine ro rfl rfl (ok_call rfl rfl rfl ((err_ok l x y).passR 2 rfl rfl (fun _ => rfl))) ?_
       refine rs rfl rfl (ok_store rfl ti_api_State (by decide) rfl rfl rfl rfl rfl (by first | exact Nat.le_of_ble_eq_true rfl | simp) (by first | exact .inl ⟨rfl, rfl⟩ | exact .inr rfl)) ?_
       refine rs rfl rfl (ok_move (.inr rfl)) ?_
       refine ro_nil ?_
       refine keepK hK25 [2, 3] (by dsimp) (by dsimp) ?_
       refine T.ret (hQ _ _ _ rfl ?_).1 -- ret 4
       exact ap_no (e := y) rfl rfl
      ·(try simp only [dE] at hc)
       obtain rfl : y = 0 := hc
       refine T.seq fun K26 hK26 => ?_
       refine T.region ?_
       refine rs rfl rfl (ok_move (.inl rfl)) ?_
       refine ro rfl rfl (ok_call rfl rfl rfl ((left_ok l x 0 k4 hl2).passR 2 rfl rfl (fun _ => rfl))) ?_
       refine rs rfl rfl (ok_binOp rfl ti_int rfl) ?_
       refine ro_case rfl rfl (OpOk.step (ok_moveb (.inl rfl) rfl)) (fun hb => ?_) (fun hb => ?_)
       ·(try simp only [dE] at hb)
        rw [getS_4 h88 hgc hck hbody (.inl (by rw [hle]; omega))] at hQ
        refine ro_skip rfl rfl ?_
        refine ro_skip rfl rfl ?_
        refine ro_skip rfl rfl ?_
        refine rs rfl rfl (ok_pickb (t := true) (d := true) rfl rfl rfl) ?_
        refine rs rfl rfl (ok_moveb (c := true) (.inr rfl) rfl) ?_
        refine ro_nil ?_
        refine keepK hK26 [2, 7, 66] (by dsimp) (by dsimp) ?_
        refine T.cond_true rfl ?_
        refine T.seq fun K27 hK27 => ?_
        refine T.region ?_
        refine rs rfl rfl (ok_build rfl ti_api_State rfl) ?_
        refine rs rfl rfl (ok_store rfl ti_api_State (by decide) rfl rfl rfl rfl rfl (by first | exact Nat.le_of_ble_eq_true rfl | simp) (by first | exact .inl ⟨rfl, rfl⟩ | exact .inr rfl)) ?_
        refine rs rfl rfl (ok_move (.inr rfl)) ?_
        refine ro_nil ?_
        refine keepK hK27 [2, 3] (by dsimp) (by dsimp) ?_
        refine T.ret (hQ _ _ _ rfl ?_).1 -- ret 5
        exact ap_no (e := 13) rfl rfl
       ·(try simp only [dE] at hb)
        refine rs rfl rfl (ok_load rfl ti_api_State rfl rfl) ?_
        refine ro rfl rfl (ok_call rfl rfl rfl ((sright_ok ⟨c, v1, v2, sk, zk⟩ (by show sk.length ≤ _; omega) (by show zk.length ≤ _; omega) (fun z hz => by have := hzp z hz; omega)).lendV (EntL.cons (Ent.st' ⟨c, v1, v2, sk, zk⟩ hstl.symm hzsl.symm rfl rfl) EntL.nil) (by simp [renL, AV.ren, StC_ren]))) ?_
        refine rs rfl rfl (ok_unOp rfl rfl) ?_
        refine rs rfl rfl (ok_pick rfl rfl) ?_
        refine rs rfl rfl (ok_move (.inr rfl)) ?_
        refine ro_nil ?_
        refine keepK hK26 [2, 7, 66] (by dsimp) (by dsimp) ?_
        refine T.cond rfl (fun hc => ?_) (fun hc => ?_) -- cond 6
        ·(try simp only [dE] at hc)
         rw [getS_4 h88 hgc hck hbody (.inr hc)] at hQ
         refine T.seq fun K28 hK28 => ?_
         refine T.region ?_
         refine rs rfl rfl (ok_build rfl ti_api_State rfl) ?_
         refine rs rfl rfl (ok_store rfl ti_api_State (by decide) rfl rfl rfl rfl rfl (by first | exact Nat.le_of_ble_eq_true rfl | simp) (by first | exact .inl ⟨rfl, rfl⟩ | exact .inr rfl)) ?_
         refine rs rfl rfl (ok_move (.inr rfl)) ?_
         refine ro_nil ?_
         refine keepK hK28 [2, 3] (by dsimp) (by dsimp) ?_
         refine T.ret (hQ _ _ _ rfl ?_).1 -- ret 6
         exact ap_no (e := 13) rfl rfl
        ·(try simp only [dE] at hc)
         rw [getS_5 h88 hgc hck hbody (by rw [hle]; intro h; rcases h with h | h; exact absurd h (by omega); exact h (by simpa using hc))] at hQ
         refine T.skip ?_
         refine keepK hK23 [2, 7] (by dsimp) (by dsimp) ?_
         refine T.seq fun K29 hK29 => ?_
         refine T.region ?_
         refine rs rfl rfl (ok_load rfl ti_api_State rfl rfl) ?_
         refine rs rfl rfl (ok_store rfl ti_api_State (by decide) rfl rfl rfl rfl rfl (by first | exact Nat.le_of_ble_eq_true rfl | simp) (by first | exact .inl ⟨rfl, rfl⟩ | exact .inr rfl)) ?_
         refine rs rfl rfl (ok_move (.inr rfl)) ?_
         refine ro_nil ?_
         refine keepK hK29 [2, 3] (by dsimp) (by dsimp) ?_
         refine T.ret (hQ _ _ _ rfl ?_).1 -- ret 7
         exact ap_ok ⟨c, v1, v2, sk, zk⟩ rfl rfl hstl.symm hzsl.symm rfl rfl
end Go.Proofs.YtjklgbafnfoolaaGreat.AmF
namespace Go.Proofs.YtjklgbafnfoolaaGreat.AmF
open Go Go.AM
set_option maxRecDepth 100000
set_option linter.unusedSimpArgs false
set_option linter.unusedVariables false
attribute [local simp] tkeep tget tput ev cav argsTM pickA normT putA splice AV.cells ints_length rowsA_length
/-- One bit's turn. -/
def turn (x : Int) : Int := if x % 2 = 1 then Go.bits .xor .u32 (x / 2) 2197175160 else x / 2
theorem turn_u (x : Int) (h : U32 x) : U32 (turn x) := by
  unfold turn
  split
  · exact bits32 _ _ _
  · have := h.1; have := h.2; unfold U32; omega
def turns : Nat → Int → Int
  | 0, x => x
  | n + 1, x => turn (turns n x)
theorem turns_u : ∀ (n : Nat) (x : Int), U32 x → U32 (turns n x)
  | 0, _, h => h
  | n + 1, x, h => turn_u _ (turns_u n x h)
/-- The state behind one byte more. -/
def step (s c : Int) : Int := turns 8 (Go.bits .xor .u32 s c)
theorem step_u (s c : Int) : U32 (step s c) := turns_u _ _ (bits32 _ _ _)
theorem crc_step (s c : Int) (hc : 0 ≤ c ∧ c < 256) : CSpec Tryz.prog 111 [] [.v (.int .u32 s), .v (.int .u8 c)] [] (.v (.int .u32 (step s c))) := by
 refine CSpec.body Tryz.func111 rfl rfl rfl rfl rfl fun Q hQ => ?_
 refine T.seq fun K1 hK1 => ?_
 refine T.region ?_
 refine rs rfl rfl (ok_move (.inr rfl)) ?_
 refine ro_nil ?_
 refine keepK hK1 [0, 1] (by dsimp) (by dsimp) ?_
 refine T.seq fun K2 hK2 => ?_
 refine T.region ?_
 refine rs rfl rfl (ok_move (.inl rfl)) ?_
 refine rs rfl rfl (ok_move (.inl rfl)) ?_
 refine ro rfl rfl ((ok_conv_int rfl ti_uint8 ti_uint32 rfl rfl).eq (x' := .v (.int .u32 c)) (by rw [wrap_u32, Int.emod_eq_of_lt hc.1 (by omega)]) rfl).step ?_
 refine rs rfl rfl (ok_bits .xor rfl ti_uint32 rfl rfl (.inr (.inr rfl))) ?_
 refine rs rfl rfl (ok_move (.inr rfl)) ?_
 refine ro_nil ?_
 refine keepK hK2 [0] (by dsimp) (by dsimp) ?_
 refine T.seq fun K3 hK3 => ?_
 refine T.seq fun K4 hK4 => ?_
 refine T.region ?_
 refine rs rfl rfl (ok_move (.inl rfl)) ?_
 refine ro_nil ?_
 refine keepK hK4 [0, 9] (by dsimp) (by dsimp) ?_
 refine T.block ?_
 refine T.loopI (ι := Nat) (fun i => i ≤ 8) (fun i => 8 - i) (fun i => ([(0, .v (.int .u32 (turns i (Go.bits .xor .u32 s c)))), (9, .int i)], [])) 0 (by omega) (TEnt.toH rfl ⟨rfl, rfl, trivial⟩) (fun i hi => ?_) -- loop 1
 have hx : U32 (turns i (Go.bits .xor .u32 s c)) := turns_u _ _ (bits32 _ _ _)
 generalize hX : turns i (Go.bits .xor .u32 s c) = X at hx ⊢
 refine T.seq fun K5 hK5 => ?_
 refine T.region ?_
 refine rs rfl rfl (ok_binOp rfl ti_int rfl) ?_
 refine ro_nil ?_
 refine keepK hK5 [0, 9, 10] (by dsimp) (by dsimp) ?_
 refine T.seq fun K6 hK6 => ?_
 refine T.cond rfl (fun hc => ?_) (fun hc => ?_) -- cond 1
 ·(try simp only [dE] at hc)
  refine T.skip ?_
  refine keepK hK6 [0, 9] (by dsimp) (by dsimp) ?_
  refine T.seq fun K7 hK7 => ?_
  refine T.block ?_
  refine T.seq fun K8 hK8 => ?_
  refine T.region ?_
  refine rs rfl rfl (ok_move (.inl rfl)) ?_
  refine rs rfl rfl ((ok_bits .and rfl ti_uint32 rfl rfl (.inl rfl)).eq (x' := .v (.int .u32 (X % 2))) (by rw [and1 X hx]) rfl) ?_
  refine rs rfl rfl (ok_binOp rfl ti_uint32 rfl) ?_
  refine ro_nil ?_
  refine keepK hK8 [0, 9, 13] (by dsimp) (by dsimp) ?_
  refine T.join hK7 [(0, .v (.int .u32 (turn X))), (9, .int i)] [] (fun hJ9 => ?_) ?_ -- join 1
  · -- the two ways
   refine T.cond rfl (fun hc => ?_) (fun hc => ?_) -- cond 2
   ·(try simp only [dE] at hc)
    refine T.region ?_
    refine rs rfl rfl (ok_move (.inl rfl)) ?_
    refine rs rfl rfl (ok_shr rfl ti_uint32 1 rfl rfl (by decide) (by decide : (2 : Int) ^ 1 = 2)) ?_
    refine rs rfl rfl (ok_bits .xor rfl ti_uint32 rfl rfl (.inr (.inr rfl))) ?_
    refine rs rfl rfl (ok_move (.inr rfl)) ?_
    refine ro_nil ?_
    exact hJ9 _ _ (TEnt.toH rfl ⟨by dsimp; rw [turn, if_pos hc], rfl, trivial⟩)
   ·(try simp only [dE] at hc)
    refine T.region ?_
    refine rs rfl rfl (ok_move (.inl rfl)) ?_
    refine rs rfl rfl (ok_shr rfl ti_uint32 1 rfl rfl (by decide) (by decide : (2 : Int) ^ 1 = 2)) ?_
    refine rs rfl rfl (ok_move (.inr rfl)) ?_
    refine ro_nil ?_
    exact hJ9 _ _ (TEnt.toH rfl ⟨by dsimp; rw [turn, if_neg hc], rfl, trivial⟩)
  refine T.region ?_
  refine rs rfl rfl (ok_add64 rfl ti_int rfl rfl (by omega) (by omega)) ?_
  refine rs rfl rfl (ok_move (.inl rfl)) ?_
  refine ro_nil ?_
  exact ⟨i + 1, by omega, by omega, TEnt.toH rfl ⟨by dsimp; rw [← hX]; rfl, rfl, trivial⟩⟩
 ·(try simp only [dE] at hc)
  have hi8 : i = 8 := by omega
  subst hi8
  refine T.exit ?_
  refine keepK hK3 [0] (by dsimp) (by dsimp) ?_
  refine T.seq fun K10 hK10 => ?_
  refine T.region ?_
  refine rs rfl rfl (ok_move (.inl rfl)) ?_
  refine rs rfl rfl (ok_move (.inr rfl)) ?_
  refine ro_nil ?_
  refine keepK hK10 [4] (by dsimp) (by dsimp) ?_
  refine T.ret (hQ _ _ _ rfl ?_).1 -- ret 1
  exact TEnt.toH rfl ⟨by dsimp [tupA]; rw [← hX]; rfl, trivial⟩
/-- Of parts. -/
def overS (ls : List (List Int)) : Int := ls.foldl (fun s l => l.foldl step s) 4294967295
theorem fold_u (l : List Int) : ∀ s, U32 s → U32 (l.foldl step s) := by
  induction l with
  | nil => exact fun _ h => h
  | cons c l ih => exact fun s _ => ih _ (step_u _ _)
theorem foldl_u (ls : List (List Int)) : ∀ s, U32 s → U32 (ls.foldl (fun s l => l.foldl step s) s) := by
  induction ls with
  | nil => exact fun _ h => h
  | cons l ls ih => exact fun s h => ih _ (fold_u l s h)
theorem overS_u (ls : List (List Int)) : U32 (overS ls) := foldl_u ls _ ⟨by omega, by omega⟩
theorem crc_over (ls : List (List Int)) (hn : ls.length ≤ 140737488355328) (hl : ∀ l ∈ ls, Bytes l ∧ l.length ≤ 140737488355328) : CSpec Tryz.prog 83 [] [.fz 1 (rowsA .u8 ls)] [] (.v (.int .u32 (4294967295 - overS ls))) := by
 refine CSpec.body Tryz.func83 rfl rfl rfl rfl rfl fun Q hQ => ?_
 refine T.seq fun K1 hK1 => ?_
 refine T.region ?_
 refine rs rfl rfl (ok_move (.inr rfl)) ?_
 refine ro_nil ?_
 refine keepK hK1 [0] (by dsimp) (by dsimp) ?_
 refine T.seq fun K2 hK2 => ?_
 refine T.region ?_
 refine rs rfl rfl (ok_move (.inr rfl)) ?_
 refine ro_nil ?_
 refine keepK hK2 [0, 3] (by dsimp) (by dsimp) ?_
 refine T.seq fun K3 hK3 => ?_
 refine T.seq fun K4 hK4 => ?_
 refine T.region ?_
 refine rs rfl rfl (ok_move (.inl rfl)) ?_
 refine rs rfl rfl ((ok_len rfl rfl ti_LLuint8 rfl).eq (x' := .int ls.length) (by rw [rowsA_length]) rfl) ?_
 refine rs rfl rfl (ok_move (.inl rfl)) ?_
 refine ro_nil ?_
 refine keepK hK4 [3, 8, 9, 10] (by dsimp) (by dsimp) ?_
 refine T.block ?_
 refine T.loopI (ι := Nat) (fun i => i ≤ ls.length) (fun i => ls.length - i) (fun i => ([(3, .v (.int .u32 ((ls.take i).foldl (fun s l => l.foldl step s) 4294967295))), (8, .fz 1 (rowsA .u8 ls)), (9, .int ls.length), (10, .int i)], [])) 0 (Nat.zero_le _) (TEnt.toH rfl ⟨rfl, rfl, rfl, rfl, trivial⟩) (fun i hi => ?_) -- loop 1
 refine T.seq fun K5 hK5 => ?_
 refine T.region ?_
 refine rs rfl rfl (ok_binOp rfl ti_int rfl) ?_
 refine ro_nil ?_
 refine keepK hK5 [3, 8, 9, 10, 11] (by dsimp) (by dsimp) ?_
 refine T.seq fun K6 hK6 => ?_
 refine T.cond rfl (fun hc => ?_) (fun hc => ?_) -- cond 1
 ·(try simp only [dE] at hc)
  obtain ⟨l, hli⟩ : ∃ l, ls[i]? = some l := ⟨_, List.getElem?_eq_getElem (by omega)⟩
  obtain ⟨hb, hll⟩ := hl l (List.mem_of_getElem? hli)
  generalize hS : (ls.take i).foldl (fun s l => l.foldl step s) 4294967295 = S
  refine T.skip ?_
  refine keepK hK6 [3, 8, 9, 10] (by dsimp) (by dsimp) ?_
  refine T.seq fun K7 hK7 => ?_
  refine T.block ?_
  refine T.seq fun K8 hK8 => ?_
  refine T.region ?_
  refine rs rfl rfl (ok_index_fz rfl ti_LLuint8 rfl ti_Luint8 rfl rfl rfl (by omega) (rowsA_get_of hli) rfl) ?_
  refine rs rfl rfl (ok_load rfl ti_Luint8 rfl rfl) ?_
  refine rs rfl rfl (ok_move (.inr rfl)) ?_
  refine ro_nil ?_
  refine keepK hK8 [3, 5, 8, 9, 10] (by dsimp) (by dsimp) ?_
  refine T.seq fun K9 hK9 => ?_
  refine T.region ?_
  refine rs rfl rfl (ok_move (.inl rfl)) ?_
  refine rs rfl rfl ((ok_len rfl rfl ti_Luint8 rfl).eq (x' := .int l.length) (by rw [ints_length]) rfl) ?_
  refine rs rfl rfl (ok_move (.inl rfl)) ?_
  refine ro_nil ?_
  refine keepK hK9 [3, 8, 9, 10, 14, 15, 16] (by dsimp) (by dsimp) ?_
  refine T.block ?_
  refine T.loopI (ι := Nat) (fun j => j ≤ l.length) (fun j => l.length - j) (fun j => ([(3, .v (.int .u32 ((l.take j).foldl step S))), (8, .fz 1 (rowsA .u8 ls)), (9, .int ls.length), (10, .int i), (14, .fz 1 (ints .u8 l)), (15, .int l.length), (16, .int j)], [])) 0 (Nat.zero_le _) (TEnt.toH rfl ⟨rfl, rfl, rfl, rfl, rfl, rfl, rfl, trivial⟩) (fun i hi => ?_) -- loop 2
  rename Nat => j
  rename j ≤ l.length => hj
  refine T.seq fun K10 hK10 => ?_
  refine T.region ?_
  refine rs rfl rfl (ok_binOp rfl ti_int rfl) ?_
  refine ro_nil ?_
  refine keepK hK10 [3, 8, 9, 10, 14, 15, 16, 17] (by dsimp) (by dsimp) ?_
  refine T.seq fun K11 hK11 => ?_
  refine T.cond rfl (fun hc => ?_) (fun hc => ?_) -- cond 2
  ·(try simp only [dE] at hc)
   obtain ⟨c, hcj⟩ : ∃ c, l[j]? = some c := ⟨_, List.getElem?_eq_getElem (by omega)⟩
   have hcb := hb c (List.mem_of_getElem? hcj)
   refine T.skip ?_
   refine keepK hK11 [3, 8, 9, 10, 14, 15, 16] (by dsimp) (by dsimp) ?_
   refine T.seq fun K12 hK12 => ?_
   refine T.block ?_
   refine T.seq fun K13 hK13 => ?_
   refine T.region ?_
   refine rs rfl rfl (ok_index_ints rfl ti_Luint8 rfl ti_uint8 rfl rfl rfl (by omega) hcj) ?_
   refine rs rfl rfl (ok_load rfl ti_uint8 rfl rfl) ?_
   refine rs rfl rfl (ok_move (.inr rfl)) ?_
   refine ro_nil ?_
   refine keepK hK13 [3, 7, 8, 9, 10, 14, 15, 16] (by dsimp) (by dsimp) ?_
   refine T.region ?_
   refine rs rfl rfl (ok_move (.inl rfl)) ?_
   refine rs rfl rfl (ok_move (.inl rfl)) ?_
   refine ro rfl rfl (ok_call rfl rfl rfl ((crc_step _ c hcb).pass [] (by decide) (by simp) rfl rfl)) ?_
   refine rs rfl rfl (ok_move (.inr rfl)) ?_
   refine ro_nil ?_
   refine keepK hK12 [3, 8, 9, 10, 14, 15, 16] (by dsimp) (by dsimp) ?_
   refine T.region ?_
   refine rs rfl rfl (ok_add64 rfl ti_int rfl rfl (by omega) (by omega)) ?_
   refine rs rfl rfl (ok_move (.inl rfl)) ?_
   refine ro_nil ?_
   exact ⟨j + 1, by omega, by omega, TEnt.toH rfl ⟨by dsimp; rw [take_succ_get hcj, List.foldl_append]; rfl, rfl, rfl, rfl, rfl, rfl, rfl, trivial⟩⟩
  ·(try simp only [dE] at hc)
   have hjl : j = l.length := by omega
   subst hjl
   refine T.exit ?_
   refine keepK hK7 [3, 8, 9, 10] (by dsimp) (by dsimp) ?_
   refine T.region ?_
   refine rs rfl rfl (ok_add64 rfl ti_int rfl rfl (by omega) (by omega)) ?_
   refine rs rfl rfl (ok_move (.inl rfl)) ?_
   refine ro_nil ?_
   exact ⟨i + 1, by omega, by omega, TEnt.toH rfl ⟨by dsimp; rw [take_succ_get hli, List.foldl_append, hS, List.take_length]; rfl, rfl, rfl, rfl, trivial⟩⟩
 ·(try simp only [dE] at hc)
  have hil : i = ls.length := by omega
  subst hil
  refine T.exit ?_
  refine keepK hK3 [3] (by dsimp) (by dsimp) ?_
  refine T.seq fun K14 hK14 => ?_
  refine T.region ?_
  refine rs rfl rfl (ok_move (.inl rfl)) ?_
  refine rs rfl rfl (((ok_bits .xor rfl ti_uint32 rfl rfl (.inr (.inr rfl))).eq (x' := .v (.int .u32 (4294967295 - overS ls))) (by rw [List.take_length]; exact congrArg (fun x => AV.v (.int .u32 x)) (xor_all _ (overS_u ls))) rfl)) ?_
  refine rs rfl rfl (ok_move (.inr rfl)) ?_
  refine ro_nil ?_
  refine keepK hK14 [2] (by dsimp) (by dsimp) ?_
  refine T.ret (hQ _ _ _ rfl ?_).1 -- ret 1
  exact TEnt.toH rfl ⟨by dsimp [tupA], trivial⟩
theorem ref_mix (s c : Int) (hs : U32 s) (hc : 0 ≤ c ∧ c < 256) : IntKind.u32.wrap (IntKind.u32.wrap (IntKind.u32.wrap (s.tdiv 256) * 256) + IntKind.u32.wrap (Go.bits .xor .u8 (IntKind.u8.wrap (s.tmod 256)) c)) = Go.bits .xor .u32 s c := by
  simp only [wrap_u32, wrap_u8]
  obtain ⟨n, rfl⟩ := Int.eq_ofNat_of_zero_le hs.1
  obtain ⟨b, rfl⟩ := Int.eq_ofNat_of_zero_le hc.1
  have hn : n < 4294967296 := by have := hs.2; omega
  have hb : b < 256 := by have := hc.2; omega
  rw [xor_nat n b hn (by omega), Int.tdiv_eq_ediv_of_nonneg hs.1, Int.tmod_eq_emod_of_nonneg hs.1]
  have e1 : ((n : Int) % 256) % 256 = ((n % 256 : Nat) : Int) := by omega
  rw [e1, xor8_nat _ b (by omega) hb, xor_low n b hb]
  have hx : (n % 256) ^^^ b < 2 ^ 8 := Nat.xor_lt_two_pow (by omega) hb
  generalize (n % 256) ^^^ b = q at hx ⊢
  omega
theorem ref_step (s c : Int) (hs : U32 s) (hc : 0 ≤ c ∧ c < 256) : CSpec Tryz.prog 86 [] [.v (.int .u32 s), .v (.int .u8 c)] [] (.v (.int .u32 (step s c))) := by
 refine CSpec.body Tryz.func86 rfl rfl rfl rfl rfl fun Q hQ => ?_
 refine T.seq fun K1 hK1 => ?_
 refine T.region ?_
 refine rs rfl rfl (ok_move (.inr rfl)) ?_
 refine ro_nil ?_
 refine keepK hK1 [0, 1] (by dsimp) (by dsimp) ?_
 refine T.seq fun K2 hK2 => ?_
 refine T.region ?_
 refine rs rfl rfl (ok_move (.inl rfl)) ?_
 refine rs rfl rfl (ok_binOp rfl ti_uint32 rfl) ?_
 refine rs rfl rfl (ok_binOp rfl ti_uint32 rfl) ?_
 refine rs rfl rfl (ok_move (.inl rfl)) ?_
 refine rs rfl rfl (ok_binOp rfl ti_uint32 rfl) ?_
 refine rs rfl rfl (ok_conv_int rfl ti_uint32 ti_uint8 rfl rfl) ?_
 refine rs rfl rfl (ok_move (.inl rfl)) ?_
 refine rs rfl rfl (ok_binOp rfl ti_uint8 rfl) ?_
 refine rs rfl rfl (ok_conv_int rfl ti_uint8 ti_uint32 rfl rfl) ?_
 refine rs rfl rfl ((ok_binOp rfl ti_uint32 rfl).eq (x' := .v (.int .u32 (Go.bits .xor .u32 s c))) (congrArg (fun x => AV.v (.int .u32 x)) (ref_mix s c hs hc)) rfl) ?_
 refine rs rfl rfl (ok_move (.inr rfl)) ?_
 refine ro_nil ?_
 refine keepK hK2 [5] (by dsimp) (by dsimp) ?_
 refine T.seq fun K3 hK3 => ?_
 refine T.seq fun K4 hK4 => ?_
 refine T.region ?_
 refine rs rfl rfl (ok_move (.inr rfl)) ?_
 refine ro_nil ?_
 refine keepK hK4 [5, 6] (by dsimp) (by dsimp) ?_
 refine T.block ?_
 refine T.loopI (ι := Nat) (fun i => i ≤ 8) (fun i => 8 - i) (fun i => ([(5, .v (.int .u32 (turns i (Go.bits .xor .u32 s c)))), (6, .int i)], [])) 0 (by omega) (TEnt.toH rfl ⟨rfl, rfl, trivial⟩) (fun i hi => ?_) -- loop 1
 have hx : U32 (turns i (Go.bits .xor .u32 s c)) := turns_u _ _ (bits32 _ _ _)
 generalize hX : turns i (Go.bits .xor .u32 s c) = X at hx ⊢
 refine T.seq fun K5 hK5 => ?_
 refine T.seq fun K6 hK6 => ?_
 refine T.region ?_
 refine rs rfl rfl (ok_move (.inl rfl)) ?_
 refine rs rfl rfl (ok_binOp rfl ti_int rfl) ?_
 refine ro_nil ?_
 refine keepK hK6 [5, 6, 19] (by dsimp) (by dsimp) ?_
 refine T.cond rfl (fun hc => ?_) (fun hc => ?_) -- cond 1
 ·(try simp only [dE] at hc)
  refine T.skip ?_
  refine keepK hK5 [5, 6] (by dsimp) (by dsimp) ?_
  refine T.seq fun K7 hK7 => ?_
  refine T.block ?_
  refine T.seq fun K8 hK8 => ?_
  refine T.region ?_
  refine rs rfl rfl (ok_move (.inl rfl)) ?_
  refine rs rfl rfl ((ok_binOp rfl ti_uint32 rfl).eq (x' := .v (.int .u32 (X % 2))) (congrArg (fun x => AV.v (.int .u32 x)) (Int.tmod_eq_emod_of_nonneg hx.1)) rfl) ?_
  refine rs rfl rfl (ok_move (.inr rfl)) ?_
  refine ro_nil ?_
  refine keepK hK8 [5, 6, 7] (by dsimp) (by dsimp) ?_
  refine T.seq fun K9 hK9 => ?_
  refine T.region ?_
  refine rs rfl rfl (ok_move (.inl rfl)) ?_
  refine rs rfl rfl ((ok_binOp rfl ti_uint32 rfl).eq (x' := .v (.int .u32 (X / 2))) (congrArg (fun x => AV.v (.int .u32 x)) (by have := hx.1; have := hx.2; simp only [wrap_u32, Int.tdiv_eq_ediv_of_nonneg hx.1]; omega)) rfl) ?_
  refine rs rfl rfl (ok_move (.inr rfl)) ?_
  refine ro_nil ?_
  refine keepK hK9 [5, 6, 7] (by dsimp) (by dsimp) ?_
  refine T.seq fun K10 hK10 => ?_
  refine T.region ?_
  refine rs rfl rfl (ok_move (.inl rfl)) ?_
  refine rs rfl rfl (ok_binOp rfl ti_uint32 rfl) ?_
  refine ro_nil ?_
  refine keepK hK10 [5, 6, 27] (by dsimp) (by dsimp) ?_
  refine T.join hK7 [(5, .v (.int .u32 (turn X))), (6, .int i)] [] (fun hJ11 => ?_) ?_ -- join 1
  · -- the two ways
   refine T.cond rfl (fun hc => ?_) (fun hc => ?_) -- cond 2
   ·(try simp only [dE] at hc)
    refine T.region ?_
    refine rs rfl rfl (ok_move (.inl rfl)) ?_
    refine rs rfl rfl (ok_bits .xor rfl ti_uint32 rfl rfl (.inr (.inr rfl))) ?_
    refine rs rfl rfl (ok_move (.inr rfl)) ?_
    refine ro_nil ?_
    exact hJ11 _ _ (TEnt.toH rfl ⟨by dsimp; rw [turn, if_pos hc], rfl, trivial⟩)
   ·(try simp only [dE] at hc)
    refine T.skip ?_
    exact hJ11 _ _ (TEnt.toH rfl ⟨by dsimp; rw [turn, if_neg hc], rfl, trivial⟩)
  refine T.region ?_
  refine rs rfl rfl (ok_move (.inl rfl)) ?_
  refine rs rfl rfl (ok_add64 rfl ti_int rfl rfl (by omega) (by omega)) ?_
  refine rs rfl rfl (ok_move (.inr rfl)) ?_
  refine ro_nil ?_
  exact ⟨i + 1, by omega, by omega, TEnt.toH rfl ⟨by dsimp; rw [← hX]; rfl, rfl, trivial⟩⟩
 ·(try simp only [dE] at hc)
  have hi8 : i = 8 := by omega
  subst hi8
  refine T.exit ?_
  refine keepK hK3 [5] (by dsimp) (by dsimp) ?_
  refine T.seq fun K12 hK12 => ?_
  refine T.region ?_
  refine rs rfl rfl (ok_move (.inl rfl)) ?_
  refine rs rfl rfl (ok_move (.inr rfl)) ?_
  refine ro_nil ?_
  refine keepK hK12 [4] (by dsimp) (by dsimp) ?_
  refine T.ret (hQ _ _ _ rfl ?_).1 -- ret 1
  exact TEnt.toH rfl ⟨by dsimp [tupA]; rw [← hX]; rfl, trivial⟩
theorem ref_of (l : List Int) (hb : Bytes l) (hl : l.length ≤ 140737488355328) : CSpec Tryz.prog 51 [] [.fz 1 (ints .u8 l)] [] (.v (.int .u32 (4294967295 - l.foldl step 4294967295))) := by
 refine CSpec.body Tryz.func51 rfl rfl rfl rfl rfl fun Q hQ => ?_
 refine T.seq fun K1 hK1 => ?_
 refine T.region ?_
 refine rs rfl rfl (ok_move (.inr rfl)) ?_
 refine ro_nil ?_
 refine keepK hK1 [0] (by dsimp) (by dsimp) ?_
 refine T.seq fun K2 hK2 => ?_
 refine T.region ?_
 refine rs rfl rfl (ok_move (.inr rfl)) ?_
 refine ro_nil ?_
 refine keepK hK2 [0, 3] (by dsimp) (by dsimp) ?_
 refine T.seq fun K3 hK3 => ?_
 refine T.seq fun K4 hK4 => ?_
 refine T.region ?_
 refine rs rfl rfl (ok_move (.inr rfl)) ?_
 refine ro_nil ?_
 refine keepK hK4 [0, 3, 4] (by dsimp) (by dsimp) ?_
 refine T.block ?_
 refine T.loopI (ι := Nat) (fun i => i ≤ l.length) (fun i => l.length - i) (fun i => ([(0, .fz 1 (ints .u8 l)), (3, .v (.int .u32 ((l.take i).foldl step 4294967295))), (4, .int i)], [])) 0 (Nat.zero_le _) (TEnt.toH rfl ⟨rfl, rfl, rfl, trivial⟩) (fun i hi => ?_) -- loop 1
 have hs : U32 ((l.take i).foldl step 4294967295) := fold_u _ _ ⟨by omega, by omega⟩
 refine T.seq fun K5 hK5 => ?_
 refine T.seq fun K6 hK6 => ?_
 refine T.region ?_
 refine rs rfl rfl (ok_move (.inl rfl)) ?_
 refine rs rfl rfl (ok_move (.inl rfl)) ?_
 refine rs rfl rfl ((ok_len rfl rfl ti_Luint8 rfl).eq (x' := .int l.length) (by rw [ints_length]) rfl) ?_
 refine rs rfl rfl (ok_binOp rfl ti_int rfl) ?_
 refine ro_nil ?_
 refine keepK hK6 [0, 3, 4, 8] (by dsimp) (by dsimp) ?_
 refine T.cond rfl (fun hc => ?_) (fun hc => ?_) -- cond 1
 ·(try simp only [dE] at hc)
  obtain ⟨c, hci⟩ : ∃ c, l[i]? = some c := ⟨_, List.getElem?_eq_getElem (by omega)⟩
  have hcb := hb c (List.mem_of_getElem? hci)
  refine T.skip ?_
  refine keepK hK5 [0, 3, 4] (by dsimp) (by dsimp) ?_
  refine T.seq fun K7 hK7 => ?_
  refine T.block ?_
  refine T.region ?_
  refine rs rfl rfl (ok_move (.inl rfl)) ?_
  refine rs rfl rfl (ok_move (.inl rfl)) ?_
  refine rs rfl rfl (ok_move (.inl rfl)) ?_
  refine rs rfl rfl (ok_index_ints rfl ti_Luint8 rfl ti_uint8 rfl rfl rfl (by omega) hci) ?_
  refine rs rfl rfl (ok_load rfl ti_uint8 rfl rfl) ?_
  refine ro rfl rfl (ok_call rfl rfl rfl ((ref_step _ c hs hcb).pass [] (by decide) (by simp) rfl rfl)) ?_
  refine rs rfl rfl (ok_move (.inr rfl)) ?_
  refine ro_nil ?_
  refine keepK hK7 [0, 3, 4] (by dsimp) (by dsimp) ?_
  refine T.region ?_
  refine rs rfl rfl (ok_move (.inl rfl)) ?_
  refine rs rfl rfl (ok_add64 rfl ti_int rfl rfl (by omega) (by omega)) ?_
  refine rs rfl rfl (ok_move (.inr rfl)) ?_
  refine ro_nil ?_
  exact ⟨i + 1, by omega, by omega, TEnt.toH rfl ⟨rfl, by dsimp; rw [take_succ_get hci, List.foldl_append]; rfl, rfl, trivial⟩⟩
 ·(try simp only [dE] at hc)
  have hil : i = l.length := by omega
  subst hil
  refine T.exit ?_
  refine keepK hK3 [3] (by dsimp) (by dsimp) ?_
  refine T.seq fun K8 hK8 => ?_
  refine T.region ?_
  refine rs rfl rfl (ok_move (.inl rfl)) ?_
  refine rs rfl rfl ((ok_binOp rfl ti_uint32 rfl).eq (x' := .v (.int .u32 (4294967295 - l.foldl step 4294967295))) (congrArg (fun x => AV.v (.int .u32 x)) (by rw [List.take_length] at hs ⊢; have := hs.1; have := hs.2; simp only [wrap_u32]; omega)) rfl) ?_
  refine rs rfl rfl (ok_move (.inr rfl)) ?_
  refine ro_nil ?_
  refine keepK hK8 [2] (by dsimp) (by dsimp) ?_
  refine T.ret (hQ _ _ _ rfl ?_).1 -- ret 1
  exact TEnt.toH rfl ⟨by dsimp [tupA], trivial⟩
theorem crc_of (l : List Int) (hb : Bytes l) (hl : l.length ≤ 140737488355328) : CSpec Tryz.prog 44 [] [.fz 1 (ints .u8 l)] [] (.v (.int .u32 (4294967295 - overS [l]))) := by
 refine CSpec.body Tryz.func44 rfl rfl rfl rfl rfl fun Q hQ => ?_
 refine T.seq fun K1 hK1 => ?_
 refine T.region ?_
 refine rs rfl rfl (ok_move (.inr rfl)) ?_
 refine ro_nil ?_
 refine keepK hK1 [0] (by dsimp) (by dsimp) ?_
 refine T.seq fun K2 hK2 => ?_
 refine T.region ?_
 refine rs rfl rfl (ok_move (.inl rfl)) ?_
 refine rs rfl rfl (ok_buildSlice (n := 1) (ps := #[(0, .tmp 3)]) rfl ti_LLuint8 rfl ti_Luint8 (by decide) rfl rfl (by decide) rfl rfl rfl) ?_
 refine ro rfl rfl (ok_call rfl rfl rfl ((crc_over [l] (by simp) (by intro x hx; simp at hx; subst hx; exact ⟨hb, hl⟩)).lendV (.cons (.lent 0 1 (rowsA .u8 [l]) rfl rfl) .nil) (by simp [renL, AV.ren, renL_rowsA]))) ?_
 refine rs rfl rfl (ok_move (.inr rfl)) ?_
 refine ro_nil ?_
 refine keepK hK2 [2] (by dsimp) (by dsimp) ?_
 refine T.ret (hQ _ _ _ rfl ?_).1 -- ret 1
 exact TEnt.fin [] (by decide) (by simp) rfl ⟨rfl, trivial⟩
end Go.Proofs.YtjklgbafnfoolaaGreat.AmF
