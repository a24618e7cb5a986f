/- Walks over the abstract machine: states of the log as bytes, as the document has it. -/
import Derived.Test.YtlegolcbjjjofaaAfState17
import Derived.Test.YtlegolcbjjjofaaAfState11
import Derived.Test.YtlegolcbjjjofaaAfBase
namespace Go.Proofs.Ytlegolcbjjjofaa.AmF
open Go Go.AM
set_option maxRecDepth 100000
set_option maxHeartbeats 4000000
set_option linter.unusedSimpArgs false
set_option linter.unusedVariables false
attribute [local simp] tkeep tget tput ev cav argsTM pickA normT putA splice AV.cells ints_length rowsA_length Prs_len Zns_len
def flagB (f : Bool) : List Int := [if f = true then 1 else 0]
def encP (p : Pr) : List Int := enc p.w 8 ++ (enc p.b.length 8 ++ p.b)
def encPs : List Pr → List Int
  | [] => []
  | p :: l => encP p ++ encPs l
theorem encPs_append (a b : List Pr) : encPs (a ++ b) = encPs a ++ encPs b := by
  induction a with
  | nil => rfl
  | cons p a ih => simp [encPs, ih]
def headZ (z : Zn) : List Int := enc z.gen 8 ++ (enc z.slot 8 ++ (flagB z.full ++ (enc z.w 8 ++ (flagB z.whole ++ enc z.pars.length 8))))
def encZ (z : Zn) : List Int := headZ z ++ encPs z.pars
def encZs : List Zn → List Int
  | [] => []
  | z :: l => encZ z ++ encZs l
theorem encZs_append (a b : List Zn) : encZs (a ++ b) = encZs a ++ encZs b := by
  induction a with
  | nil => rfl
  | cons p a ih => simp [encZs, ih]
def headS (s : St) : List Int := encs s.c.l ++ (enc s.ep 8 ++ enc s.sq 8)
/-- A state as bytes. -/
def encSt (s : St) : List Int := headS s ++ (encs s.st ++ encZs s.zs)
def putS (s : St) : List Int := if RS s then encSt s else []
theorem putS_ok {s : St} (h : RS s) : putS s = encSt s := if_pos h
theorem putS_bad {s : St} (h : ¬ RS s) : putS s = [] := if_neg h
theorem headZ_len (z : Zn) : (headZ z).length = 34 := by simp [headZ, flagB, enc_len]
theorem headS_len (s : St) : (headS s).length = 104 := by simp [headS, enc_len, encs_len, Cf.l]
theorem encPs_take (l : List Pr) (i : Nat) : (encPs (l.take i)).length ≤ (encPs l).length := by
  have : encPs l = encPs (l.take i) ++ encPs (l.drop i) := by rw [← encPs_append, List.take_append_drop]
  rw [this, List.length_append]; omega
theorem encZs_take (l : List Zn) (i : Nat) : (encZs (l.take i)).length ≤ (encZs l).length := by
  have : encZs l = encZs (l.take i) ++ encZs (l.drop i) := by rw [← encZs_append, List.take_append_drop]
  rw [this, List.length_append]; omega
theorem encZs_snoc {l : List Zn} {i : Nat} {z : Zn} (h : l[i]? = some z) : encZs (l.take (i + 1)) = encZs (l.take i) ++ encZ z := by
  rw [take_succ_get h, encZs_append]; simp [encZs]
theorem encPs_snoc {l : List Pr} {i : Nat} {p : Pr} (h : l[i]? = some p) : encPs (l.take (i + 1)) = encPs (l.take i) ++ encP p := by
  rw [take_succ_get h, encPs_append]; simp [encPs]
theorem encs_snoc' {l : List Int} {i : Nat} {v : Int} (h : l[i]? = some v) : encs (l.take (i + 1)) = encs (l.take i) ++ enc v 8 := by
  rw [take_succ_get h, encs_snoc]
theorem encs_take (l : List Int) (i : Nat) : (encs (l.take i)).length ≤ (encs l).length := by
  rw [encs_len, encs_len, List.length_take]; omega
def BsB (l : List Int) : Blk := ⟨1, true, ints .u8 l⟩
theorem BsB_ren (ρ : Nat → Option Nat) (l : List Int) : Blk.ren ρ (BsB l) = BsB l := by simp [BsB, Blk.ren, renL_ints]
theorem heap1 {a a' : Option Blk} (h1 : a = a') : [a] = [a'] := by subst h1; rfl
theorem heap2 {a a' b b' : Option Blk} (h1 : a = a') (h2 : b = b') : [a, b] = [a', b'] := by subst h1 h2; rfl
theorem rflagput_new (f : Bool) : CSpec Try.prog 82 [] [.b f] [some (BsB (flagB f))] (.sl 0 0 1) := by
 refine CSpec.body Try.func82 rfl rfl rfl rfl rfl fun Q hQ => ?_
 refine T.seq fun K1 hK1 => ?_
 refine T.region ?_ -- region 0
 refine ro rfl rfl (OpOk.step (ok_move (.inr rfl))) ?_
 refine ro_nil ?_
 refine keepK hK1 [0] (by dsimp) (by dsimp) ?_
 refine T.seq fun K2 hK2 => ?_
 refine T.seq fun K3 hK3 => ?_
 refine T.region ?_ -- region 1
 refine ro rfl rfl (OpOk.step (ok_move (.inl rfl))) ?_
 refine ro_nil ?_
 refine keepK hK3 [3] (by dsimp) (by dsimp) ?_
 refine T.cond rfl (fun hc => ?_) (fun hc => ?_) -- cond 1
 ·(try simp only [dE] at hc)
  subst hc
  refine T.seq fun K4 hK4 => ?_
  refine T.region ?_ -- region 2
  refine ro rfl rfl (OpOk.step (ok_buildSlice (n := 1) (ps := #[(0, .const (.int .u8 (1)))]) rfl ti_Luint8 rfl ti_uint8 (by decide) rfl rfl (by decide) rfl rfl rfl)) ?_
  refine ro rfl rfl (OpOk.step (ok_move (.inr rfl))) ?_
  refine ro_nil ?_
  refine keepK hK4 [2] (by dsimp) (by dsimp) ?_
  refine T.ret (hQ _ _ _ rfl ?_).1 -- ret 1
  exact TEnt.toH rfl ⟨rfl, trivial⟩
 ·(try simp only [dE] at hc)
  subst hc
  refine T.skip ?_
  refine keepK hK2 [] (by dsimp) (by dsimp) ?_
  refine T.seq fun K5 hK5 => ?_
  refine T.region ?_ -- region 3
  refine ro rfl rfl (OpOk.step (ok_buildSlice (n := 1) (ps := #[(0, .const (.int .u8 (0)))]) rfl ti_Luint8 rfl ti_uint8 (by decide) rfl rfl (by decide) rfl rfl rfl)) ?_
  refine ro rfl rfl (OpOk.step (ok_move (.inr rfl))) ?_
  refine ro_nil ?_
  refine keepK hK5 [2] (by dsimp) (by dsimp) ?_
  refine T.ret (hQ _ _ _ rfl ?_).1 -- ret 2
  exact TEnt.toH rfl ⟨rfl, trivial⟩
theorem rflagput_frz (f : Bool) : CSpec Try.prog 82 [] [.b f] [] (.fz 1 (ints .u8 (flagB f))) := (rflagput_new f).frz rfl (renL_ints _ _ _)
theorem rput_call {c : Cf} {H : Heap} : CallOk Try.prog 80 H [.agg (CC c)] (.sl H.length 0 (encs c.l).length) (H ++ [some (BsB (encs c.l))]) :=
  (rput_new c).fresh (by show renL _ [.agg (CC c)] = _; simp [renL, AV.ren, CC_ren]) (by simp [AV.ren]) (by show [some (Blk.ren _ (BsB _))] = _; rw [BsB_ren])
theorem rput11_new (s : St) (hrs : RS s) (hT : (encSt s).length ≤ 1000000) (hsl : s.st.length ≤ 1000000) (hzl : s.zs.length ≤ 1000000) : CSpec Try.prog 38 [] [.agg (StC s)] [some (BsB (encSt s))] (.sl 0 0 (encSt s).length) := by
 have hl0 := headS_len s
 have hT0 : (encSt s).length = (headS s).length + ((encs s.st).length + (encZs s.zs).length) := by rw [encSt, List.length_append, List.length_append]
 refine CSpec.body Try.func38 rfl rfl rfl rfl rfl fun Q hQ => ?_
 refine T.seq fun K1 hK1 => ?_
 refine T.region ?_ -- region 0
 refine ro rfl rfl (OpOk.step (ok_box (n := 15) rfl rfl (by decide))) ?_
 refine ro rfl rfl (OpOk.step (ok_move (.inr rfl))) ?_
 refine ro_nil ?_
 refine keepK hK1 [1] (by dsimp) (by dsimp) ?_
 refine T.seq fun K2 hK2 => ?_
 refine T.seq fun K3 hK3 => ?_
 refine T.region ?_ -- region 1
 refine ro rfl rfl (OpOk.step (ok_load rfl ti_api_State rfl rfl)) ?_
 refine ro rfl rfl (ok_call rfl rfl rfl ((rsright_ok s (by omega) (by omega)).plain (by simp [renL, AV.ren, StC_take, StC_ren]) rfl)) ?_
 refine ro rfl rfl (OpOk.step (OpOk.bool (d := false) (ok_unOp rfl rfl) ((by simp [hrs])))) ?_
 refine ro_nil ?_
 refine keepK hK3 [1, 10] (by dsimp) (by dsimp) ?_
 refine T.cond_false rfl ?_
 refine T.skip ?_
 refine keepK hK2 [1] (by dsimp) (by dsimp) ?_
 refine T.seq fun K4 hK4 => ?_
 refine T.draw mixed (SH [] (HeldL ([some (StB s)]))) ?_ -- region 3
 refine any_take 0 rfl (by first | rfl | decide +kernel) rfl (by first | (simp [HeldL]; done) | (simp only [HeldL, List.map_cons, List.map_nil, List.cons_append, List.nil_append, List.set_cons_zero, List.set_cons_succ]; (repeat' first | trivial | rfl | constructor))) (fun H' hH => OpOk.step (ok_fieldAddr rfl ti_api_State rfl rfl ti_api_Conf (by decide) rfl)) ?_
 refine any_take 1 rfl (by first | rfl | decide +kernel) rfl (by first | (simp [HeldL]; done) | (simp only [HeldL, List.map_cons, List.map_nil, List.cons_append, List.nil_append, List.set_cons_zero, List.set_cons_succ]; (repeat' first | trivial | rfl | constructor))) (fun H' hH => OpOk.step (ok_load rfl ti_api_Conf (locA_held hH rfl) rfl)) ?_
 refine any_take 3 rfl (by first | rfl | decide +kernel) rfl (by first | (simp [HeldL]; done) | (simp only [HeldL, List.map_cons, List.map_nil, List.cons_append, List.nil_append, List.set_cons_zero, List.set_cons_succ]; (repeat' first | trivial | rfl | constructor))) (fun H' hH => OpOk.step (ok_fieldAddr rfl ti_api_State rfl rfl ti_int (by decide) rfl)) ?_
 refine any_take 4 rfl (by first | rfl | decide +kernel) rfl (by first | (simp [HeldL]; done) | (simp only [HeldL, List.map_cons, List.map_nil, List.cons_append, List.nil_append, List.set_cons_zero, List.set_cons_succ]; (repeat' first | trivial | rfl | constructor))) (fun H' hH => OpOk.step (ok_load rfl ti_int (locA_held hH rfl) rfl)) ?_
 refine any_take 7 rfl (by first | rfl | decide +kernel) rfl (by first | (simp [HeldL]; done) | (simp only [HeldL, List.map_cons, List.map_nil, List.cons_append, List.nil_append, List.set_cons_zero, List.set_cons_succ]; (repeat' first | trivial | rfl | constructor))) (fun H' hH => OpOk.step (ok_fieldAddr rfl ti_api_State rfl rfl ti_int (by decide) rfl)) ?_
 refine any_take 8 rfl (by first | rfl | decide +kernel) rfl (by first | (simp [HeldL]; done) | (simp only [HeldL, List.map_cons, List.map_nil, List.cons_append, List.nil_append, List.set_cons_zero, List.set_cons_succ]; (repeat' first | trivial | rfl | constructor))) (fun H' hH => OpOk.step (ok_load rfl ti_int (locA_held hH rfl) rfl)) ?_
 refine any_one 2 rfl (by first | rfl | decide +kernel) rfl rfl (ok_call rfl rfl rfl (rput_call)) (.inr (by first | (simp [HeldL]; done) | (simp only [HeldL, List.map_cons, List.map_nil, List.cons_append, List.nil_append, List.set_cons_zero, List.set_cons_succ]; (repeat' first | trivial | rfl | constructor)))) ?_
 refine any_one 5 rfl (by first | rfl | decide +kernel) rfl rfl (ok_call rfl rfl rfl ((rint_frz s.ep).plain rfl (by simp [AV.ren, renL_ints]))) (.inr (by first | (simp [HeldL]; done) | (simp only [HeldL, List.map_cons, List.map_nil, List.cons_append, List.nil_append, List.set_cons_zero, List.set_cons_succ]; (repeat' first | trivial | rfl | constructor)))) ?_
 refine any_one 6 rfl (by first | rfl | decide +kernel) rfl rfl (OpOk.step (by exact ok_append_ints (k := .u8) (xs := encs s.c.l) (ys := enc s.ep 8) rfl ti_Luint8 rfl ti_uint8 rfl (by decide) rfl ti_Luint8 (by simp) rfl rfl rfl rfl rfl rfl rfl rfl rfl (by simp [enc_len, encs_len, Cf.l]))) (.inr (by first | (simp [HeldL]; done) | (simp only [HeldL, List.map_cons, List.map_nil, List.cons_append, List.nil_append, List.set_cons_zero, List.set_cons_succ]; (repeat' first | trivial | rfl | constructor)))) ?_
 refine any_one 9 rfl (by first | rfl | decide +kernel) rfl rfl (ok_call rfl rfl rfl ((rint_frz s.sq).plain rfl (by simp [AV.ren, renL_ints]))) (.inr (by first | (simp [HeldL]; done) | (simp only [HeldL, List.map_cons, List.map_nil, List.cons_append, List.nil_append, List.set_cons_zero, List.set_cons_succ]; (repeat' first | trivial | rfl | constructor)))) ?_
 refine any_one 10 rfl (by first | rfl | decide +kernel) rfl rfl (OpOk.step (by exact ok_append_ints (k := .u8) (xs := encs s.c.l ++ enc s.ep 8) (ys := enc s.sq 8) rfl ti_Luint8 rfl ti_uint8 rfl (by decide) rfl ti_Luint8 (by simp) rfl rfl rfl rfl rfl rfl rfl rfl rfl (by simp [enc_len, encs_len, Cf.l]))) (.inr (by first | (simp [HeldL]; done) | (simp only [HeldL, List.map_cons, List.map_nil, List.cons_append, List.nil_append, List.set_cons_zero, List.set_cons_succ]; (repeat' first | trivial | rfl | constructor)))) ?_
 refine any_take 11 rfl (by first | rfl | decide +kernel) rfl (by first | (simp [HeldL]; done) | (simp only [HeldL, List.map_cons, List.map_nil, List.cons_append, List.nil_append, List.set_cons_zero, List.set_cons_succ]; (repeat' first | trivial | rfl | constructor))) (fun H' hH => OpOk.step (ok_move (.inr rfl))) ?_
 refine any_done rfl ?_
 refine keepK hK4 [1, 3] (by dsimp) (by dsimp) ?_
 refine T.seq fun K5 hK5 => ?_
 refine T.seq fun K6 hK6 => ?_
 refine T.region ?_ -- region 4
 refine ro rfl rfl (OpOk.step (ok_move (.inr rfl))) ?_
 refine ro_nil ?_
 refine keepK hK6 [1, 3, 4] (by dsimp) (by dsimp) ?_
 refine T.block ?_
 refine T.loopI (ι := Nat) (fun i => i ≤ s.st.length) (fun i => s.st.length - i) (fun i => ([(1, .ref 0 0 0), (3, .sl 1 0 (headS s ++ encs (s.st.take i)).length), (4, .int i)], [some (StB s), some (BsB (headS s ++ encs (s.st.take i)))])) 0 (Nat.zero_le _) (TEnt.fin [0, 3] (by decide) (by simp) (by show [some (Blk.ren _ (StB s)), some (Blk.ren _ (BsB (encs s.c.l ++ enc s.ep 8 ++ enc s.sq 8)))] = _; rw [StB_ren, BsB_ren, List.append_assoc]; simp [encs, headS]) ⟨rfl, by rw [show headS s ++ encs (s.st.take 0) = encs s.c.l ++ enc s.ep 8 ++ enc s.sq 8 by simp [encs, headS]]; rfl, rfl, trivial⟩) (fun i hi => ?_) -- loop 1
 have hti := encs_take s.st i
 refine T.seq fun K7 hK7 => ?_
 refine T.seq fun K8 hK8 => ?_
 refine T.region ?_ -- region 5
 refine ro rfl rfl (OpOk.step (ok_move (.inl rfl))) ?_
 refine ro rfl rfl (OpOk.step (ok_fieldAddr rfl ti_api_State rfl rfl ti_Lint (by decide) rfl)) ?_
 refine ro rfl rfl (OpOk.step (ok_load rfl ti_Lint rfl rfl)) ?_
 refine ro rfl rfl (OpOk.step (ok_len' rfl rfl ti_Lint rfl (by first | exact ints_length _ _ | exact rowsA_length _ _ | exact Cms_len _ | exact mapLen _ | rfl))) ?_
 refine ro rfl rfl (OpOk.step (ok_binOp rfl ti_int rfl)) ?_
 refine ro_nil ?_
 refine keepK hK8 [1, 3, 4, 26] (by dsimp) (by dsimp) ?_
 refine T.cond rfl (fun hc => ?_) (fun hc => ?_) -- cond 1
 ·(try simp only [dE] at hc)
  try rw [ints_length] at hc
  obtain ⟨v, hv⟩ : ∃ v, s.st[i]? = some v := ⟨_, List.getElem?_eq_getElem (by omega)⟩
  have hsn : headS s ++ encs (s.st.take (i + 1)) = headS s ++ encs (s.st.take i) ++ enc v 8 := by rw [encs_snoc' hv, List.append_assoc]
  refine T.skip ?_
  refine keepK hK7 [1, 3, 4] (by dsimp) (by dsimp) ?_
  refine T.seq fun K9 hK9 => ?_
  refine T.block ?_
  refine T.region ?_ -- region 7
  refine ro rfl rfl (OpOk.step (ok_move (.inl rfl))) ?_
  refine ro rfl rfl (OpOk.step (ok_fieldAddr rfl ti_api_State rfl rfl ti_Lint (by decide) rfl)) ?_
  refine ro rfl rfl (OpOk.step (ok_load rfl ti_Lint rfl rfl)) ?_
  refine ro rfl rfl (OpOk.step (ok_move (.inl rfl))) ?_
  refine ro rfl rfl (OpOk.step (by exact ok_index_ints rfl ti_Lint rfl ti_int rfl rfl rfl (by omega) (by simpa using hv))) ?_
  refine ro rfl rfl (OpOk.step (ok_load rfl ti_int rfl rfl)) ?_
  refine ro rfl rfl (ok_call rfl rfl rfl ((rint_frz v).plain rfl (by simp [AV.ren, renL_ints]))) ?_
  refine ro rfl rfl (OpOk.step (by exact ok_append_ints (k := .u8) (xs := headS s ++ encs (s.st.take i)) (ys := enc v 8) rfl ti_Luint8 rfl ti_uint8 rfl (by decide) rfl ti_Luint8 (by simp) rfl rfl rfl rfl rfl rfl rfl rfl rfl (by simp [enc_len]; omega))) ?_
  refine ro rfl rfl (OpOk.step (ok_move (.inr rfl))) ?_
  refine ro_nil ?_
  refine keepK hK9 [1, 3, 4] (by dsimp) (by dsimp) ?_
  refine T.region ?_ -- region 6
  refine ro rfl rfl (OpOk.step (ok_move (.inl rfl))) ?_
  refine ro rfl rfl (OpOk.step (ok_add64 rfl ti_int rfl rfl (by omega) (by omega))) ?_
  refine ro rfl rfl (OpOk.step (ok_move (.inr rfl))) ?_
  refine ro_nil ?_
  exact ⟨i + 1, by omega, by omega, TEnt.fin [0, 2] (by decide) (by simp) (by show [some (Blk.ren _ (StB s)), some (Blk.ren _ (BsB (headS s ++ encs (s.st.take i) ++ enc v 8)))] = _; rw [StB_ren, BsB_ren, hsn]) ⟨rfl, by rw [hsn]; rfl, rfl, trivial⟩⟩
 ·(try simp only [dE] at hc)
  try rw [ints_length] at hc
  have hin : i = s.st.length := by omega
  subst hin
  have htk : s.st.take s.st.length = s.st := List.take_length ..
  obtain ⟨A, hA⟩ : ∃ A, headS s ++ encs s.st = A := ⟨_, rfl⟩
  have hAl : A.length = (headS s).length + (encs s.st).length := by rw [← hA, List.length_append]
  refine T.exit ?_
  refine keepK hK5 [1, 3] (by dsimp) (by dsimp) ?_
  refine T.seq fun K10 hK10 => ?_
  refine T.seq fun K11 hK11 => ?_
  refine T.region ?_ -- region 8
  refine ro rfl rfl (OpOk.step (ok_move (.inr rfl))) ?_
  refine ro_nil ?_
  refine keepK hK11 [1, 3, 5] (by dsimp) (by dsimp) ?_
  refine T.block ?_
  refine T.loopI (ι := Nat) (fun i => i ≤ s.zs.length) (fun i => s.zs.length - i) (fun i => ([(1, .ref 0 0 0), (3, .sl 1 0 (A ++ encZs (s.zs.take i)).length), (5, .int i)], [some (StB s), some (BsB (A ++ encZs (s.zs.take i)))])) 0 (Nat.zero_le _) (TEnt.toH (by rw [htk, hA]; simp [encZs]) ⟨rfl, by rw [htk, hA]; simp [encZs], rfl, trivial⟩) (fun i hi => ?_) -- loop 2
  have hzi := encZs_take s.zs i
  refine T.seq fun K12 hK12 => ?_
  refine T.seq fun K13 hK13 => ?_
  refine T.region ?_ -- region 9
  refine ro rfl rfl (OpOk.step (ok_move (.inl rfl))) ?_
  refine ro rfl rfl (OpOk.step (ok_fieldAddr rfl ti_api_State rfl rfl ti_Lapi_Zone (by decide) rfl)) ?_
  refine ro rfl rfl (OpOk.step (ok_load rfl ti_Lapi_Zone rfl rfl)) ?_
  refine ro rfl rfl (OpOk.step (ok_len' rfl rfl ti_Lapi_Zone rfl (by first | exact ints_length _ _ | exact rowsA_length _ _ | exact Cms_len _ | exact mapLen _ | rfl))) ?_
  refine ro rfl rfl (OpOk.step (ok_binOp rfl ti_int rfl)) ?_
  refine ro_nil ?_
  refine keepK hK13 [1, 3, 5, 41] (by dsimp) (by dsimp) ?_
  refine T.cond rfl (fun hc => ?_) (fun hc => ?_) -- cond 2
  ·(try simp only [dE] at hc)
   try rw [Zns_len] at hc
   obtain ⟨w, hw⟩ : ∃ w, w = i := ⟨_, rfl⟩
   subst hw
   obtain ⟨z, hz⟩ : ∃ z, s.zs[w]? = some z := ⟨_, List.getElem?_eq_getElem (by omega)⟩
   have hzs := encZs_snoc hz
   have hzi1 := encZs_take s.zs (w + 1)
   obtain ⟨B, hBq⟩ : ∃ B, A ++ encZs (s.zs.take w) = B := ⟨_, rfl⟩
   have hBl : B.length = A.length + (encZs (s.zs.take w)).length := by rw [← hBq, List.length_append]
   have hzl1 : (encZs (s.zs.take w)).length + ((headZ z).length + (encPs z.pars).length) = (encZs (s.zs.take (w + 1))).length := by rw [hzs, List.length_append, encZ, List.length_append]
   have hhz := headZ_len z
   have hB1 : B.length + 34 + (encPs z.pars).length ≤ 1000000 := by omega
   have hrz := (hrs.2.2.2.2.2.2.2.1 z (List.mem_of_getElem? hz)).2.2.2.2.2.1
   rw [hBq]
   refine T.skip ?_
   refine keepK hK12 [1, 3, 5] (by dsimp) (by dsimp) ?_
   refine T.seq fun K14 hK14 => ?_
   refine T.block ?_
   refine T.seq fun K15 hK15 => ?_
   refine T.region ?_ -- region 11
   refine ro rfl rfl (OpOk.step (ok_fieldAddr rfl ti_api_State rfl rfl ti_Lapi_Zone (by decide) rfl)) ?_
   refine ro rfl rfl (OpOk.step (ok_load rfl ti_Lapi_Zone rfl rfl)) ?_
   refine ro rfl rfl (OpOk.step (ok_move (.inl rfl))) ?_
   refine ro rfl rfl (OpOk.step (by exact ok_index_map (F := ZnC) rfl ti_Lapi_Zone rfl ti_api_Zone rfl rfl rfl hz (by simp [ZnC]))) ?_
   refine ro rfl rfl (OpOk.step (ok_load rfl ti_api_Zone rfl rfl)) ?_
   refine ro rfl rfl (OpOk.step (ok_alloc rfl ti_api_Zone rfl (by decide))) ?_
   refine ro rfl rfl (OpOk.step (ok_store rfl ti_api_Zone (by decide) rfl rfl rfl rfl rfl (by first | exact Nat.le_of_ble_eq_true rfl | simp) (by first | exact .inl ⟨rfl, rfl⟩ | exact .inr rfl))) ?_
   refine ro_nil ?_
   refine keepK hK15 [1, 3, 5, 6] (by dsimp) (by dsimp) ?_
   refine T.seq fun K16 hK16 => ?_
   refine T.ent (TEnt.toH (tm' := [(1, .ref 0 0 0), (3, .sl 1 0 B.length), (5, .int w), (6, .ref 2 0 0)]) (H' := [some (StB s), some (BsB B), some (ZnB z)]) rfl ⟨rfl, rfl, rfl, rfl, trivial⟩) ?_
   refine T.draw mixed (SH [] (HeldL ([some (StB s), none, some (ZnB z)]))) ?_ -- region 12
   refine any_take 0 rfl (by first | rfl | decide +kernel) rfl (by first | (simp [HeldL]; done) | (simp only [HeldL, List.map_cons, List.map_nil, List.cons_append, List.nil_append, List.set_cons_zero, List.set_cons_succ]; (repeat' first | trivial | rfl | constructor))) (fun H' hH => OpOk.step (ok_move (.inl rfl))) ?_
   refine any_take 1 rfl (by first | rfl | decide +kernel) rfl (by first | (simp [HeldL]; done) | (simp only [HeldL, List.map_cons, List.map_nil, List.cons_append, List.nil_append, List.set_cons_zero, List.set_cons_succ]; (repeat' first | trivial | rfl | constructor))) (fun H' hH => OpOk.step (ok_fieldAddr rfl ti_api_Zone rfl rfl ti_int (by decide) rfl)) ?_
   refine any_take 2 rfl (by first | rfl | decide +kernel) rfl (by first | (simp [HeldL]; done) | (simp only [HeldL, List.map_cons, List.map_nil, List.cons_append, List.nil_append, List.set_cons_zero, List.set_cons_succ]; (repeat' first | trivial | rfl | constructor))) (fun H' hH => OpOk.step (ok_load rfl ti_int (locA_held hH rfl) rfl)) ?_
   refine any_take 5 rfl (by first | rfl | decide +kernel) rfl (by first | (simp [HeldL]; done) | (simp only [HeldL, List.map_cons, List.map_nil, List.cons_append, List.nil_append, List.set_cons_zero, List.set_cons_succ]; (repeat' first | trivial | rfl | constructor))) (fun H' hH => OpOk.step (ok_fieldAddr rfl ti_api_Zone rfl rfl ti_int (by decide) rfl)) ?_
   refine any_take 6 rfl (by first | rfl | decide +kernel) rfl (by first | (simp [HeldL]; done) | (simp only [HeldL, List.map_cons, List.map_nil, List.cons_append, List.nil_append, List.set_cons_zero, List.set_cons_succ]; (repeat' first | trivial | rfl | constructor))) (fun H' hH => OpOk.step (ok_load rfl ti_int (locA_held hH rfl) rfl)) ?_
   refine any_take 9 rfl (by first | rfl | decide +kernel) rfl (by first | (simp [HeldL]; done) | (simp only [HeldL, List.map_cons, List.map_nil, List.cons_append, List.nil_append, List.set_cons_zero, List.set_cons_succ]; (repeat' first | trivial | rfl | constructor))) (fun H' hH => OpOk.step (ok_fieldAddr rfl ti_api_Zone rfl rfl ti_bool (by decide) rfl)) ?_
   refine any_take 10 rfl (by first | rfl | decide +kernel) rfl (by first | (simp [HeldL]; done) | (simp only [HeldL, List.map_cons, List.map_nil, List.cons_append, List.nil_append, List.set_cons_zero, List.set_cons_succ]; (repeat' first | trivial | rfl | constructor))) (fun H' hH => OpOk.step (ok_load rfl ti_bool (locA_held hH rfl) rfl)) ?_
   refine any_take 13 rfl (by first | rfl | decide +kernel) rfl (by first | (simp [HeldL]; done) | (simp only [HeldL, List.map_cons, List.map_nil, List.cons_append, List.nil_append, List.set_cons_zero, List.set_cons_succ]; (repeat' first | trivial | rfl | constructor))) (fun H' hH => OpOk.step (ok_fieldAddr rfl ti_api_Zone rfl rfl ti_int (by decide) rfl)) ?_
   refine any_take 14 rfl (by first | rfl | decide +kernel) rfl (by first | (simp [HeldL]; done) | (simp only [HeldL, List.map_cons, List.map_nil, List.cons_append, List.nil_append, List.set_cons_zero, List.set_cons_succ]; (repeat' first | trivial | rfl | constructor))) (fun H' hH => OpOk.step (ok_load rfl ti_int (locA_held hH rfl) rfl)) ?_
   refine any_one 3 rfl (by first | rfl | decide +kernel) rfl rfl (ok_call rfl rfl rfl ((rint_frz z.gen).plain rfl (by simp [AV.ren, renL_ints]))) (.inr (by first | (simp [HeldL]; done) | (simp only [HeldL, List.map_cons, List.map_nil, List.cons_append, List.nil_append, List.set_cons_zero, List.set_cons_succ]; (repeat' first | trivial | rfl | constructor)))) ?_
   refine any_one 4 rfl (by first | rfl | decide +kernel) rfl rfl (OpOk.step (by exact ok_append_ints (k := .u8) (xs := B) (ys := enc z.gen 8) rfl ti_Luint8 rfl ti_uint8 rfl (by decide) rfl ti_Luint8 (by simp) rfl rfl rfl rfl rfl rfl rfl rfl rfl (by simp [enc_len]; omega))) (.inr (by first | (simp [HeldL]; done) | (simp only [HeldL, List.map_cons, List.map_nil, List.cons_append, List.nil_append, List.set_cons_zero, List.set_cons_succ]; (repeat' first | trivial | rfl | constructor)))) ?_
   refine any_one 7 rfl (by first | rfl | decide +kernel) rfl rfl (ok_call rfl rfl rfl ((rint_frz z.slot).plain rfl (by simp [AV.ren, renL_ints]))) (.inr (by first | (simp [HeldL]; done) | (simp only [HeldL, List.map_cons, List.map_nil, List.cons_append, List.nil_append, List.set_cons_zero, List.set_cons_succ]; (repeat' first | trivial | rfl | constructor)))) ?_
   refine any_one 8 rfl (by first | rfl | decide +kernel) rfl rfl (OpOk.step (by exact ok_append_ints (k := .u8) (xs := B ++ enc z.gen 8) (ys := enc z.slot 8) rfl ti_Luint8 rfl ti_uint8 rfl (by decide) rfl ti_Luint8 (by simp) rfl rfl rfl rfl rfl rfl rfl rfl rfl (by simp [enc_len]; omega))) (.inr (by first | (simp [HeldL]; done) | (simp only [HeldL, List.map_cons, List.map_nil, List.cons_append, List.nil_append, List.set_cons_zero, List.set_cons_succ]; (repeat' first | trivial | rfl | constructor)))) ?_
   refine any_one 11 rfl (by first | rfl | decide +kernel) rfl rfl (ok_call rfl rfl rfl ((rflagput_frz z.full).plain rfl (by simp [AV.ren, renL_ints]))) (.inr (by first | (simp [HeldL]; done) | (simp only [HeldL, List.map_cons, List.map_nil, List.cons_append, List.nil_append, List.set_cons_zero, List.set_cons_succ]; (repeat' first | trivial | rfl | constructor)))) ?_
   refine any_one 12 rfl (by first | rfl | decide +kernel) rfl rfl (OpOk.step (by exact ok_append_ints (k := .u8) (xs := B ++ enc z.gen 8 ++ enc z.slot 8) (ys := flagB z.full) rfl ti_Luint8 rfl ti_uint8 rfl (by decide) rfl ti_Luint8 (by simp) rfl rfl rfl rfl rfl rfl rfl rfl rfl (by simp [enc_len, flagB]; omega))) (.inr (by first | (simp [HeldL]; done) | (simp only [HeldL, List.map_cons, List.map_nil, List.cons_append, List.nil_append, List.set_cons_zero, List.set_cons_succ]; (repeat' first | trivial | rfl | constructor)))) ?_
   refine any_one 15 rfl (by first | rfl | decide +kernel) rfl rfl (ok_call rfl rfl rfl ((rint_frz z.w).plain rfl (by simp [AV.ren, renL_ints]))) (.inr (by first | (simp [HeldL]; done) | (simp only [HeldL, List.map_cons, List.map_nil, List.cons_append, List.nil_append, List.set_cons_zero, List.set_cons_succ]; (repeat' first | trivial | rfl | constructor)))) ?_
   refine any_one 16 rfl (by first | rfl | decide +kernel) rfl rfl (OpOk.step (by exact ok_append_ints (k := .u8) (xs := B ++ enc z.gen 8 ++ enc z.slot 8 ++ flagB z.full) (ys := enc z.w 8) rfl ti_Luint8 rfl ti_uint8 rfl (by decide) rfl ti_Luint8 (by simp) rfl rfl rfl rfl rfl rfl rfl rfl rfl (by simp [enc_len, flagB]; omega))) (.inr (by first | (simp [HeldL]; done) | (simp only [HeldL, List.map_cons, List.map_nil, List.cons_append, List.nil_append, List.set_cons_zero, List.set_cons_succ]; (repeat' first | trivial | rfl | constructor)))) ?_
   refine any_take 17 rfl (by first | rfl | decide +kernel) rfl (by first | (simp [HeldL]; done) | (simp only [HeldL, List.map_cons, List.map_nil, List.cons_append, List.nil_append, List.set_cons_zero, List.set_cons_succ]; (repeat' first | trivial | rfl | constructor))) (fun H' hH => OpOk.step (ok_move (.inr rfl))) ?_
   refine any_done rfl ?_
   refine keepK hK16 [1, 3, 5, 6] (by dsimp) (by dsimp) ?_
   refine T.seq fun K17 hK17 => ?_
   obtain ⟨B2, hB2⟩ : ∃ B2, B ++ enc z.gen 8 ++ enc z.slot 8 ++ flagB z.full ++ enc z.w 8 = B2 := ⟨_, rfl⟩
   have hB2l : B2.length = B.length + 25 := by rw [← hB2]; simp [enc_len, flagB]
   refine T.ent (TEnt.fin (tm' := [(1, .ref 0 0 0), (3, .sl 1 0 B2.length), (5, .int w), (6, .ref 2 0 0)]) (H' := [some (StB s), some (BsB B2), some (ZnB z)]) [0, 6, 2] (by decide) (by simp) (by show [some (Blk.ren _ (StB s)), some (Blk.ren _ (BsB (B ++ enc z.gen 8 ++ enc z.slot 8 ++ flagB z.full ++ enc z.w 8))), some (Blk.ren _ (ZnB z))] = _; rw [StB_ren, BsB_ren, ZnB_ren, hB2]) ⟨rfl, by rw [← hB2]; rfl, rfl, rfl, trivial⟩) ?_
   refine T.draw mixed (SH [] (HeldL ([some (StB s), none, some (ZnB z)]))) ?_ -- region 13
   refine any_take 0 rfl (by first | rfl | decide +kernel) rfl (by first | (simp [HeldL]; done) | (simp only [HeldL, List.map_cons, List.map_nil, List.cons_append, List.nil_append, List.set_cons_zero, List.set_cons_succ]; (repeat' first | trivial | rfl | constructor))) (fun H' hH => OpOk.step (ok_move (.inl rfl))) ?_
   refine any_take 1 rfl (by first | rfl | decide +kernel) rfl (by first | (simp [HeldL]; done) | (simp only [HeldL, List.map_cons, List.map_nil, List.cons_append, List.nil_append, List.set_cons_zero, List.set_cons_succ]; (repeat' first | trivial | rfl | constructor))) (fun H' hH => OpOk.step (ok_fieldAddr rfl ti_api_Zone rfl rfl ti_bool (by decide) rfl)) ?_
   refine any_take 2 rfl (by first | rfl | decide +kernel) rfl (by first | (simp [HeldL]; done) | (simp only [HeldL, List.map_cons, List.map_nil, List.cons_append, List.nil_append, List.set_cons_zero, List.set_cons_succ]; (repeat' first | trivial | rfl | constructor))) (fun H' hH => OpOk.step (ok_load rfl ti_bool (locA_held hH rfl) rfl)) ?_
   refine any_take 5 rfl (by first | rfl | decide +kernel) rfl (by first | (simp [HeldL]; done) | (simp only [HeldL, List.map_cons, List.map_nil, List.cons_append, List.nil_append, List.set_cons_zero, List.set_cons_succ]; (repeat' first | trivial | rfl | constructor))) (fun H' hH => OpOk.step (ok_fieldAddr rfl ti_api_Zone rfl rfl ti_Lapi_Par (by decide) rfl)) ?_
   refine any_take 6 rfl (by first | rfl | decide +kernel) rfl (by first | (simp [HeldL]; done) | (simp only [HeldL, List.map_cons, List.map_nil, List.cons_append, List.nil_append, List.set_cons_zero, List.set_cons_succ]; (repeat' first | trivial | rfl | constructor))) (fun H' hH => OpOk.step (ok_load rfl ti_Lapi_Par (locA_held hH rfl) rfl)) ?_
   refine any_take 7 rfl (by first | rfl | decide +kernel) rfl (by first | (simp [HeldL]; done) | (simp only [HeldL, List.map_cons, List.map_nil, List.cons_append, List.nil_append, List.set_cons_zero, List.set_cons_succ]; (repeat' first | trivial | rfl | constructor))) (fun H' hH => OpOk.step (by exact ok_len' rfl rfl ti_Lapi_Par rfl (Prs_len _))) ?_
   refine any_one 3 rfl (by first | rfl | decide +kernel) rfl rfl (ok_call rfl rfl rfl ((rflagput_frz z.whole).plain rfl (by simp [AV.ren, renL_ints]))) (.inr (by first | (simp [HeldL]; done) | (simp only [HeldL, List.map_cons, List.map_nil, List.cons_append, List.nil_append, List.set_cons_zero, List.set_cons_succ]; (repeat' first | trivial | rfl | constructor)))) ?_
   refine any_one 4 rfl (by first | rfl | decide +kernel) rfl rfl (OpOk.step (by exact ok_append_ints (k := .u8) (xs := B2) (ys := flagB z.whole) rfl ti_Luint8 rfl ti_uint8 rfl (by decide) rfl ti_Luint8 (by simp) rfl rfl rfl rfl rfl rfl rfl rfl rfl (by simp [flagB]; omega))) (.inr (by first | (simp [HeldL]; done) | (simp only [HeldL, List.map_cons, List.map_nil, List.cons_append, List.nil_append, List.set_cons_zero, List.set_cons_succ]; (repeat' first | trivial | rfl | constructor)))) ?_
   refine any_one 8 rfl (by first | rfl | decide +kernel) rfl rfl (ok_call rfl rfl rfl ((rint_frz z.pars.length).plain rfl (by simp [AV.ren, renL_ints]))) (.inr (by first | (simp [HeldL]; done) | (simp only [HeldL, List.map_cons, List.map_nil, List.cons_append, List.nil_append, List.set_cons_zero, List.set_cons_succ]; (repeat' first | trivial | rfl | constructor)))) ?_
   refine any_one 9 rfl (by first | rfl | decide +kernel) rfl rfl (OpOk.step (by exact ok_append_ints (k := .u8) (xs := B2 ++ flagB z.whole) (ys := enc z.pars.length 8) rfl ti_Luint8 rfl ti_uint8 rfl (by decide) rfl ti_Luint8 (by simp) rfl rfl rfl rfl rfl rfl rfl rfl rfl (by simp [flagB, enc_len]; omega))) (.inr (by first | (simp [HeldL]; done) | (simp only [HeldL, List.map_cons, List.map_nil, List.cons_append, List.nil_append, List.set_cons_zero, List.set_cons_succ]; (repeat' first | trivial | rfl | constructor)))) ?_
   refine any_take 10 rfl (by first | rfl | decide +kernel) rfl (by first | (simp [HeldL]; done) | (simp only [HeldL, List.map_cons, List.map_nil, List.cons_append, List.nil_append, List.set_cons_zero, List.set_cons_succ]; (repeat' first | trivial | rfl | constructor))) (fun H' hH => OpOk.step (ok_move (.inr rfl))) ?_
   refine any_done rfl ?_
   refine keepK hK17 [1, 3, 5, 6] (by dsimp) (by dsimp) ?_
   refine T.seq fun K18 hK18 => ?_
   refine T.region ?_ -- region 14
   refine ro rfl rfl (OpOk.step (ok_move (.inr rfl))) ?_
   refine ro_nil ?_
   refine keepK hK18 [1, 3, 5, 6, 7] (by dsimp) (by dsimp) ?_
   refine T.block ?_
   refine T.loopI (ι := Nat) (fun k => k ≤ z.pars.length) (fun k => z.pars.length - k) (fun k => ([(1, .ref 0 0 0), (3, .sl 1 0 (B ++ headZ z ++ encPs (z.pars.take k)).length), (5, .int w), (6, .ref 2 0 0), (7, .int k)], [some (StB s), some (BsB (B ++ headZ z ++ encPs (z.pars.take k))), some (ZnB z)])) 0 (Nat.zero_le _) (by
     have e : B2 ++ flagB z.whole ++ enc z.pars.length 8 = B ++ headZ z ++ encPs (z.pars.take 0) := by rw [← hB2]; simp [headZ, encPs]
     exact TEnt.fin [0, 4, 2] (by decide) (by simp) (by show [some (Blk.ren _ (StB s)), some (Blk.ren _ (BsB (B2 ++ flagB z.whole ++ enc z.pars.length 8))), some (Blk.ren _ (ZnB z))] = _; rw [StB_ren, BsB_ren, ZnB_ren, e]) ⟨rfl, by rw [← e]; rfl, rfl, rfl, rfl, trivial⟩) (fun i hi => ?_) -- loop 3
   have hpi := encPs_take z.pars i
   refine T.seq fun K19 hK19 => ?_
   refine T.seq fun K20 hK20 => ?_
   refine T.region ?_ -- region 15
   refine ro rfl rfl (OpOk.step (ok_move (.inl rfl))) ?_
   refine ro rfl rfl (OpOk.step (ok_fieldAddr rfl ti_api_Zone rfl rfl ti_Lapi_Par (by decide) rfl)) ?_
   refine ro rfl rfl (OpOk.step (ok_load rfl ti_Lapi_Par rfl rfl)) ?_
   refine ro rfl rfl (OpOk.step (ok_len' rfl rfl ti_Lapi_Par rfl (by first | exact ints_length _ _ | exact rowsA_length _ _ | exact Cms_len _ | exact mapLen _ | rfl))) ?_
   refine ro rfl rfl (OpOk.step (ok_binOp rfl ti_int rfl)) ?_
   refine ro_nil ?_
   refine keepK hK20 [1, 3, 5, 6, 7, 80] (by dsimp) (by dsimp) ?_
   refine T.cond rfl (fun hc => ?_) (fun hc => ?_) -- cond 3
   ·(try simp only [dE] at hc)
    try rw [Prs_len] at hc
    obtain ⟨p, hp⟩ : ∃ p, z.pars[i]? = some p := ⟨_, List.getElem?_eq_getElem (by omega)⟩
    have hps : B ++ headZ z ++ encPs (z.pars.take (i + 1)) = B ++ headZ z ++ encPs (z.pars.take i) ++ enc p.w 8 ++ (enc p.b.length 8 ++ p.b) := by rw [encPs_snoc hp, encP]; simp
    have hpi1 := encPs_take z.pars (i + 1)
    have hpl : (encPs (z.pars.take i)).length + (16 + p.b.length) = (encPs (z.pars.take (i + 1))).length := by rw [encPs_snoc hp, List.length_append, encP]; simp [enc_len]; omega
    refine T.skip ?_
    refine keepK hK19 [1, 3, 5, 6, 7] (by dsimp) (by dsimp) ?_
    refine T.seq fun K21 hK21 => ?_
    refine T.block ?_
    refine T.draw mixed (SH [] (HeldL ([some (StB s), none, some (ZnB z)]))) ?_ -- region 17
    refine any_take 0 rfl (by first | rfl | decide +kernel) rfl (by first | (simp [HeldL]; done) | (simp only [HeldL, List.map_cons, List.map_nil, List.cons_append, List.nil_append, List.set_cons_zero, List.set_cons_succ]; (repeat' first | trivial | rfl | constructor))) (fun H' hH => OpOk.step (ok_move (.inl rfl))) ?_
    refine any_take 1 rfl (by first | rfl | decide +kernel) rfl (by first | (simp [HeldL]; done) | (simp only [HeldL, List.map_cons, List.map_nil, List.cons_append, List.nil_append, List.set_cons_zero, List.set_cons_succ]; (repeat' first | trivial | rfl | constructor))) (fun H' hH => OpOk.step (ok_fieldAddr rfl ti_api_Zone rfl rfl ti_Lapi_Par (by decide) rfl)) ?_
    refine any_take 2 rfl (by first | rfl | decide +kernel) rfl (by first | (simp [HeldL]; done) | (simp only [HeldL, List.map_cons, List.map_nil, List.cons_append, List.nil_append, List.set_cons_zero, List.set_cons_succ]; (repeat' first | trivial | rfl | constructor))) (fun H' hH => OpOk.step (ok_load rfl ti_Lapi_Par (locA_held hH rfl) rfl)) ?_
    refine any_take 3 rfl (by first | rfl | decide +kernel) rfl (by first | (simp [HeldL]; done) | (simp only [HeldL, List.map_cons, List.map_nil, List.cons_append, List.nil_append, List.set_cons_zero, List.set_cons_succ]; (repeat' first | trivial | rfl | constructor))) (fun H' hH => OpOk.step (ok_move (.inl rfl))) ?_
    refine any_take 4 rfl (by first | rfl | decide +kernel) rfl (by first | (simp [HeldL]; done) | (simp only [HeldL, List.map_cons, List.map_nil, List.cons_append, List.nil_append, List.set_cons_zero, List.set_cons_succ]; (repeat' first | trivial | rfl | constructor))) (fun H' hH => OpOk.step (by exact ok_index_map (F := PrC) rfl ti_Lapi_Par rfl ti_api_Par rfl rfl rfl hp (by simp [PrC]))) ?_
    refine any_take 5 rfl (by first | rfl | decide +kernel) rfl (by first | (simp [HeldL]; done) | (simp only [HeldL, List.map_cons, List.map_nil, List.cons_append, List.nil_append, List.set_cons_zero, List.set_cons_succ]; (repeat' first | trivial | rfl | constructor))) (fun H' hH => OpOk.step (ok_fieldAddr rfl ti_api_Par rfl rfl ti_int (by decide) rfl)) ?_
    refine any_take 6 rfl (by first | rfl | decide +kernel) rfl (by first | (simp [HeldL]; done) | (simp only [HeldL, List.map_cons, List.map_nil, List.cons_append, List.nil_append, List.set_cons_zero, List.set_cons_succ]; (repeat' first | trivial | rfl | constructor))) (fun H' hH => OpOk.step (ok_load rfl ti_int (locA_held hH rfl) rfl)) ?_
    refine any_take 9 rfl (by first | rfl | decide +kernel) rfl (by first | (simp [HeldL]; done) | (simp only [HeldL, List.map_cons, List.map_nil, List.cons_append, List.nil_append, List.set_cons_zero, List.set_cons_succ]; (repeat' first | trivial | rfl | constructor))) (fun H' hH => OpOk.step (ok_fieldAddr rfl ti_api_Zone rfl rfl ti_Lapi_Par (by decide) rfl)) ?_
    refine any_take 10 rfl (by first | rfl | decide +kernel) rfl (by first | (simp [HeldL]; done) | (simp only [HeldL, List.map_cons, List.map_nil, List.cons_append, List.nil_append, List.set_cons_zero, List.set_cons_succ]; (repeat' first | trivial | rfl | constructor))) (fun H' hH => OpOk.step (ok_load rfl ti_Lapi_Par (locA_held hH rfl) rfl)) ?_
    refine any_take 11 rfl (by first | rfl | decide +kernel) rfl (by first | (simp [HeldL]; done) | (simp only [HeldL, List.map_cons, List.map_nil, List.cons_append, List.nil_append, List.set_cons_zero, List.set_cons_succ]; (repeat' first | trivial | rfl | constructor))) (fun H' hH => OpOk.step (ok_move (.inl rfl))) ?_
    refine any_take 12 rfl (by first | rfl | decide +kernel) rfl (by first | (simp [HeldL]; done) | (simp only [HeldL, List.map_cons, List.map_nil, List.cons_append, List.nil_append, List.set_cons_zero, List.set_cons_succ]; (repeat' first | trivial | rfl | constructor))) (fun H' hH => OpOk.step (by exact ok_index_map (F := PrC) rfl ti_Lapi_Par rfl ti_api_Par rfl rfl rfl hp (by simp [PrC]))) ?_
    refine any_take 13 rfl (by first | rfl | decide +kernel) rfl (by first | (simp [HeldL]; done) | (simp only [HeldL, List.map_cons, List.map_nil, List.cons_append, List.nil_append, List.set_cons_zero, List.set_cons_succ]; (repeat' first | trivial | rfl | constructor))) (fun H' hH => OpOk.step (ok_fieldAddr rfl ti_api_Par rfl rfl ti_Luint8 (by decide) rfl)) ?_
    refine any_take 14 rfl (by first | rfl | decide +kernel) rfl (by first | (simp [HeldL]; done) | (simp only [HeldL, List.map_cons, List.map_nil, List.cons_append, List.nil_append, List.set_cons_zero, List.set_cons_succ]; (repeat' first | trivial | rfl | constructor))) (fun H' hH => OpOk.step (ok_load rfl ti_Luint8 (locA_held hH rfl) rfl)) ?_
    refine any_one 7 rfl (by first | rfl | decide +kernel) rfl rfl (ok_call rfl rfl rfl ((rint_frz p.w).plain rfl (by simp [AV.ren, renL_ints]))) (.inr (by first | (simp [HeldL]; done) | (simp only [HeldL, List.map_cons, List.map_nil, List.cons_append, List.nil_append, List.set_cons_zero, List.set_cons_succ]; (repeat' first | trivial | rfl | constructor)))) ?_
    refine any_one 8 rfl (by first | rfl | decide +kernel) rfl rfl (OpOk.step (by exact ok_append_ints (k := .u8) (xs := B ++ headZ z ++ encPs (z.pars.take i)) (ys := enc p.w 8) rfl ti_Luint8 rfl ti_uint8 rfl (by decide) rfl ti_Luint8 (by simp) rfl rfl rfl rfl rfl rfl rfl rfl rfl (by simp [enc_len]; omega))) (.inr (by first | (simp [HeldL]; done) | (simp only [HeldL, List.map_cons, List.map_nil, List.cons_append, List.nil_append, List.set_cons_zero, List.set_cons_succ]; (repeat' first | trivial | rfl | constructor)))) ?_
    refine any_one 15 rfl (by first | rfl | decide +kernel) rfl rfl (ok_call rfl rfl rfl ((rbytesput_frz (l := p.b) rfl (by omega)).plain (by simp [renL, AV.ren, renL_ints]) (by simp [AV.ren, renL_ints]))) (.inr (by first | (simp [HeldL]; done) | (simp only [HeldL, List.map_cons, List.map_nil, List.cons_append, List.nil_append, List.set_cons_zero, List.set_cons_succ]; (repeat' first | trivial | rfl | constructor)))) ?_
    refine any_one 16 rfl (by first | rfl | decide +kernel) rfl rfl (OpOk.step (by exact ok_append_ints (k := .u8) (xs := B ++ headZ z ++ encPs (z.pars.take i) ++ enc p.w 8) (ys := enc p.b.length 8 ++ p.b) rfl ti_Luint8 rfl ti_uint8 rfl (by decide) rfl ti_Luint8 (by simp) rfl rfl rfl rfl rfl rfl rfl rfl rfl (by simp [enc_len]; omega))) (.inr (by first | (simp [HeldL]; done) | (simp only [HeldL, List.map_cons, List.map_nil, List.cons_append, List.nil_append, List.set_cons_zero, List.set_cons_succ]; (repeat' first | trivial | rfl | constructor)))) ?_
    refine any_take 17 rfl (by first | rfl | decide +kernel) rfl (by first | (simp [HeldL]; done) | (simp only [HeldL, List.map_cons, List.map_nil, List.cons_append, List.nil_append, List.set_cons_zero, List.set_cons_succ]; (repeat' first | trivial | rfl | constructor))) (fun H' hH => OpOk.step (ok_move (.inr rfl))) ?_
    refine any_done rfl ?_
    refine keepK hK21 [1, 3, 5, 6, 7] (by dsimp) (by dsimp) ?_
    refine T.region ?_ -- region 16
    refine ro rfl rfl (OpOk.step (ok_move (.inl rfl))) ?_
    refine ro rfl rfl (OpOk.step (ok_add64 rfl ti_int rfl rfl (by omega) (by omega))) ?_
    refine ro rfl rfl (OpOk.step (ok_move (.inr rfl))) ?_
    refine ro_nil ?_
    exact ⟨i + 1, by omega, by omega, TEnt.fin [0, 4, 2] (by decide) (by simp) (by show [some (Blk.ren _ (StB s)), some (Blk.ren _ (BsB (B ++ headZ z ++ encPs (z.pars.take i) ++ enc p.w 8 ++ (enc p.b.length 8 ++ p.b)))), some (Blk.ren _ (ZnB z))] = _; rw [StB_ren, BsB_ren, ZnB_ren, hps]) ⟨rfl, by rw [hps]; rfl, rfl, rfl, rfl, trivial⟩⟩
   ·(try simp only [dE] at hc)
    try rw [Prs_len] at hc
    have hzf : A ++ encZs (s.zs.take (w + 1)) = B ++ headZ z ++ encPs (z.pars.take i) := by
      rw [hzs, encZ, ← hBq, show z.pars.take i = z.pars from List.take_of_length_le (by omega)]
      simp
    refine T.exit ?_
    refine keepK hK14 [1, 3, 5] (by dsimp) (by dsimp) ?_
    refine T.region ?_ -- region 10
    refine ro rfl rfl (OpOk.step (ok_move (.inl rfl))) ?_
    refine ro rfl rfl (OpOk.step (ok_add64 rfl ti_int rfl rfl (by omega) (by omega))) ?_
    refine ro rfl rfl (OpOk.step (ok_move (.inr rfl))) ?_
    refine ro_nil ?_
    exact ⟨w + 1, by omega, by omega, TEnt.fin [0, 1] (by decide) (by simp) (by show [some (Blk.ren _ (StB s)), some (Blk.ren _ (BsB (B ++ headZ z ++ encPs (z.pars.take i))))] = _; rw [StB_ren, BsB_ren, hzf]) ⟨rfl, by rw [hzf]; rfl, rfl, trivial⟩⟩
  ·(try simp only [dE] at hc)
   try rw [Zns_len] at hc
   have hin : i = s.zs.length := by omega
   have hfin : A ++ encZs (s.zs.take i) = encSt s := by rw [← hA, show s.zs.take i = s.zs from List.take_of_length_le (by omega), encSt, List.append_assoc]
   rw [hfin]
   refine T.exit ?_
   refine keepK hK10 [3] (by dsimp) (by dsimp) ?_
   refine T.seq fun K22 hK22 => ?_
   refine T.region ?_ -- region 18
   refine ro rfl rfl (OpOk.step (ok_move (.inl rfl))) ?_
   refine ro rfl rfl (OpOk.step (ok_move (.inr rfl))) ?_
   refine ro_nil ?_
   refine keepK hK22 [2] (by dsimp) (by dsimp) ?_
   refine T.ret (hQ _ _ _ rfl ?_).1 -- ret 1
   exact TEnt.fin [1] (by decide) (by simp) (heap1 (congrArg some (BsB_ren _ _))) ⟨rfl, trivial⟩
end Go.Proofs.Ytlegolcbjjjofaa.AmF
