/- The law StatePuts. -/
import Derived.Test.YtlegolcbjjjofaaAfSputp
import Derived.Test.YtlegolcbjjjofaaAfSput2
import Derived.Test.YtlegolcbjjjofaaAfSsame
import Derived.Test.YtlegolcbjjjofaaAfState16
import Derived.Test.YtlegolcbjjjofaaAfStrow
namespace Go.Proofs.Ytlegolcbjjjofaa.AmF
open Go Go.AM
set_option maxRecDepth 100000
set_option maxHeartbeats 4000000
set_option linter.unusedSimpArgs false
set_option linter.unusedVariables false
attribute [local simp] tkeep tget tput ev cav argsTM pickA normT putA splice AV.cells ints_length rowsA_length Prs_len Zns_len
theorem encPs_len : ∀ l : List Pr, ((encPs l).length : Int) = 16 * l.length + sumP l
  | [] => rfl
  | p :: l => by
    have ih := encPs_len l
    have h : sumP (p :: l) = p.b.length + sumP l := by simp [sumP]
    rw [encPs, encP, h]
    simp [enc_len]
    omega
theorem encZs_le : ∀ zs : List Zn, (∀ z ∈ zs, z.pars.length ≤ 5) → ((encZs zs).length : Int) ≤ 114 * zs.length + sumB zs
  | [], _ => by simp [encZs, sumB]
  | z :: zs, h => by
    have ih := encZs_le zs fun y hy => h y (List.mem_cons_of_mem _ hy)
    have h0 := h z (List.mem_cons_self ..)
    have h1 : sumB (z :: zs) = sumP z.pars + sumB zs := by simp [sumB]
    have h2 := encPs_len z.pars
    have h3 := headZ_len z
    rw [encZs, encZ, h1, List.length_append, List.length_append, List.length_cons]
    omega
theorem encSt_le {s : St} (h : FewS s) : (encSt s).length ≤ 1000000 := by
  have h1 := encZs_le s.zs fun z hz => FewS_pars h hz
  obtain ⟨f1, f2, f3⟩ := h
  rw [show min s.zs.length 80 = s.zs.length by omega] at f1
  have h2 := sumB_of f1 (Nat.le_refl _)
  rw [List.take_length] at h2
  have h3 := headS_len s
  have h4 := encs_len s.st
  rw [encSt, List.length_append, List.length_append]
  omega
theorem flagB_bytes (f : Bool) : Bytes (flagB f) := by
  intro x hx
  rw [List.mem_singleton.1 hx]
  cases f <;> decide
theorem encPs_bytes : ∀ l : List Pr, (∀ p ∈ l, Bytes p.b) → Bytes (encPs l)
  | [], _ => Bytes.nil
  | p :: l, h => ((enc_bytes _ _).append ((enc_bytes _ _).append (h p (List.mem_cons_self ..)))).append (encPs_bytes l fun q hq => h q (List.mem_cons_of_mem _ hq))
theorem encZs_bytes : ∀ zs : List Zn, (∀ z ∈ zs, ∀ p ∈ z.pars, Bytes p.b) → Bytes (encZs zs)
  | [], _ => Bytes.nil
  | z :: zs, h => (((enc_bytes _ _).append ((enc_bytes _ _).append ((flagB_bytes _).append ((enc_bytes _ _).append ((flagB_bytes _).append (enc_bytes _ _)))))).append (encPs_bytes z.pars (h z (List.mem_cons_self ..)))).append (encZs_bytes zs fun y hy => h y (List.mem_cons_of_mem _ hy))
theorem encSt_bytes {s : St} (h : ∀ z ∈ s.zs, ∀ p ∈ z.pars, Bytes p.b) : Bytes (encSt s) :=
  ((encs_bytes _).append ((enc_bytes _ _).append (enc_bytes _ _))).append ((encs_bytes _).append (encZs_bytes _ h))
theorem rput11_bad (s : St) (hrs : ¬ RS s) (hsl : s.st.length ≤ 1000000) (hzl : s.zs.length ≤ 1000000) : CSpec Try.prog 38 [] [.agg (StC s)] [] (.fz 1 (ints .u8 [])) := by
 refine CSpec.body Try.func38 rfl rfl rfl rfl rfl fun Q hQ => ?_
 refine T.seq fun K1 hK1 => ?_
 refine T.region ?_ -- region 0
 refine ro rfl rfl (OpOk.step (ok_box (n := 15) rfl rfl (by decide))) ?_
 refine ro rfl rfl (OpOk.step (ok_move (.inr rfl))) ?_
 refine ro_nil ?_
 refine keepK hK1 [1] (by dsimp) (by dsimp) ?_
 refine T.seq fun K2 hK2 => ?_
 refine T.seq fun K3 hK3 => ?_
 refine T.region ?_ -- region 1
 refine ro rfl rfl (OpOk.step (ok_load rfl ti_api_State rfl rfl)) ?_
 refine ro rfl rfl (ok_call rfl rfl rfl ((rsright_ok s (by omega) (by omega)).plain (by simp [renL, AV.ren, StC_take, StC_ren]) rfl)) ?_
 refine ro rfl rfl (OpOk.step (OpOk.bool (d := true) (ok_unOp rfl rfl) ((by simp [hrs])))) ?_
 refine ro_nil ?_
 refine keepK hK3 [1, 10] (by dsimp) (by dsimp) ?_
 refine T.cond_true rfl ?_
 refine T.seq fun K4 hK4 => ?_
 refine T.region ?_ -- region 2
 refine ro rfl rfl (OpOk.step (ok_move (.inr rfl))) ?_
 refine ro_nil ?_
 refine keepK hK4 [2] (by dsimp) (by dsimp) ?_
 refine T.ret (hQ _ _ _ rfl ?_).1 -- ret 1
 exact (TEnt.put1 0 (x' := .fz 1 []) (Ent.nil 1)).trans (TEnt.fin [] (by decide) (by simp) rfl ⟨rfl, trivial⟩)
theorem rput11_ok {s : St} (h : FewS s) : CSpec Try.prog 38 [] [.agg (StC s)] [] (.fz 1 (ints .u8 (putS s))) := by
  have h2 := h.2.1
  have h3 := h.2.2
  by_cases hrs : RS s
  · rw [putS_ok hrs]
    exact (rput11_new s hrs (encSt_le h) (by omega) (by omega)).frz (by simp) (renL_ints _ _ _)
  · rw [putS_bad hrs]
    exact rput11_bad s hrs (by omega) (by omega)
theorem statePuts_ok (s t : St) (hs : SizedS s) (ht : SizedS t) (hB : ∀ z ∈ s.zs, ∀ p ∈ z.pars, Bytes p.b) : CSpec Try.prog 8 [] [.agg (StC s), .agg (StC t)] [] (.b true) := by
 refine CSpec.body Try.func8 rfl rfl rfl rfl rfl fun Q hQ => ?_
 refine T.seq fun K1 hK1 => ?_
 refine T.region ?_ -- region 0
 refine ro rfl rfl (OpOk.step (ok_box (n := 15) rfl rfl (by decide))) ?_
 refine ro rfl rfl (OpOk.step (ok_box (n := 15) rfl rfl (by decide))) ?_
 refine ro rfl rfl (OpOk.step (ok_moveb (c := false) (.inr rfl) rfl)) ?_
 refine ro_nil ?_
 refine keepK hK1 [2, 3] (by dsimp) (by dsimp) ?_
 refine T.seq fun K2 hK2 => ?_
 refine T.seq fun K3 hK3 => ?_
 refine T.region ?_ -- region 1
 refine ro rfl rfl (OpOk.step (ok_load rfl ti_api_State rfl rfl)) ?_
 refine ro rfl rfl (ok_call rfl rfl rfl ((smuch_ok s hs.1 hs.2.1 hs.2.2.1 hs.2.2.2).plain (by simp [renL, AV.ren, StC_take, StC_ren]) rfl)) ?_
 refine ro_case rfl rfl (OpOk.step (ok_moveb (.inl rfl) rfl)) (fun hb => ?_) (fun hb => ?_)
 ·(try simp only [dE] at hb)
  refine ro_skip rfl rfl ?_
  refine ro_skip rfl rfl ?_
  refine ro rfl rfl (OpOk.step (ok_pickb (t := true) (d := true) rfl rfl rfl)) ?_
  refine ro_nil ?_
  refine keepK hK3 [2, 3, 13] (by dsimp) (by dsimp) ?_
  refine T.cond_true rfl ?_
  refine T.seq fun K4 hK4 => ?_
  refine T.region ?_ -- region 2
  refine ro rfl rfl (ok_call rfl rfl rfl (live11_ok.plain rfl rfl)) ?_
  refine ro rfl rfl (OpOk.step (ok_move (.inr rfl))) ?_
  refine ro_nil ?_
  refine keepK hK4 [4] (by dsimp) (by dsimp) ?_
  refine T.ret (hQ _ _ _ rfl ?_).1 -- ret 1
  exact TEnt.fin [] (by decide) (by simp) rfl ⟨rfl, trivial⟩
 ·(try simp only [dE] at hb)
  have hf : FewS s := FewS_of hb
  refine ro rfl rfl (OpOk.step (ok_load rfl ti_api_State rfl rfl)) ?_
  refine ro rfl rfl (ok_call rfl rfl rfl ((smuch_ok t ht.1 ht.2.1 ht.2.2.1 ht.2.2.2).plain (by simp [renL, AV.ren, StC_take, StC_ren]) rfl)) ?_
  refine ro rfl rfl (OpOk.step (ok_pick rfl rfl)) ?_
  refine ro_nil ?_
  refine keepK hK3 [2, 3, 13] (by dsimp) (by dsimp) ?_
  refine T.cond rfl (fun hc => ?_) (fun hc => ?_) -- cond 1
  ·(try simp only [dE] at hc)
   refine T.seq fun K5 hK5 => ?_
   refine T.region ?_ -- region 2
   refine ro rfl rfl (ok_call rfl rfl rfl (live11_ok.plain rfl rfl)) ?_
   refine ro rfl rfl (OpOk.step (ok_move (.inr rfl))) ?_
   refine ro_nil ?_
   refine keepK hK5 [4] (by dsimp) (by dsimp) ?_
   refine T.ret (hQ _ _ _ rfl ?_).1 -- ret 2
   exact TEnt.fin [] (by decide) (by simp) rfl ⟨rfl, trivial⟩
  ·(try simp only [dE] at hc)
   have hf2 := hf.2.1
   have hf3 := hf.2.2
   have hp6 : ∀ z ∈ s.zs, z.pars.length ≤ 1000000 := fun z hz => by have := FewS_pars hf hz; omega
   have hput := sput_ok s (fun _ => encSt_le hf) (by omega) (by omega) hp6
   have hsame := ssame_ok s t (by omega) (by omega) (fun z hz => by have := hp6 z hz; omega)
   rw [teB_eq] at hsame
   refine T.skip ?_
   refine keepK hK2 [2, 3] (by dsimp) (by dsimp) ?_
   refine T.seq fun K6 hK6 => ?_
   refine T.region ?_ -- region 3
   refine ro rfl rfl (OpOk.step (ok_load rfl ti_api_State rfl rfl)) ?_
   refine ro rfl rfl (ok_call rfl rfl rfl (hput.plain (by simp [renL, AV.ren, StC_take, StC_ren]) (by simp [AV.ren, renL_ints]))) ?_
   refine ro rfl rfl (OpOk.step (ok_move (.inr rfl))) ?_
   refine ro_nil ?_
   refine keepK hK6 [2, 3, 5] (by dsimp) (by dsimp) ?_
   refine T.seq fun K7 hK7 => ?_
   refine T.seq fun K8 hK8 => ?_
   refine T.draw mixed (SH [] (HeldL ([some (StB s), some (StB t)]))) ?_ -- region 4
   refine any_take 0 rfl (by first | rfl | decide +kernel) rfl (by first | (simp [HeldL]; done) | (simp only [HeldL, List.map_cons, List.map_nil, List.cons_append, List.nil_append, List.set_cons_zero, List.set_cons_succ]; (repeat' first | trivial | rfl | constructor))) (fun H' hH => OpOk.step (ok_move (.inl rfl))) ?_
   refine any_take 1 rfl (by first | rfl | decide +kernel) rfl (by first | (simp [HeldL]; done) | (simp only [HeldL, List.map_cons, List.map_nil, List.cons_append, List.nil_append, List.set_cons_zero, List.set_cons_succ]; (repeat' first | trivial | rfl | constructor))) (fun H' hH => OpOk.step (ok_conv_str rfl ti_Luint8 ti_string rfl ti_uint8 rfl rfl (rowA_held hH rfl) rfl (bytesOf_ints _))) ?_
   refine any_take 2 rfl (by first | rfl | decide +kernel) rfl (by first | (simp [HeldL]; done) | (simp only [HeldL, List.map_cons, List.map_nil, List.cons_append, List.nil_append, List.set_cons_zero, List.set_cons_succ]; (repeat' first | trivial | rfl | constructor))) (fun H' hH => OpOk.step (ok_load rfl ti_api_State (locA_held hH rfl) rfl)) ?_
   refine any_one 3 rfl (by first | rfl | decide +kernel) rfl rfl (ok_call rfl rfl rfl ((rput11_ok hf).plain (by simp [renL, AV.ren, StC_take, StC_ren]) (by simp [AV.ren, renL_ints]))) (.inr (by first | (simp [HeldL]; done) | (simp only [HeldL, List.map_cons, List.map_nil, List.cons_append, List.nil_append, List.set_cons_zero, List.set_cons_succ]; (repeat' first | trivial | rfl | constructor)))) ?_
   refine any_take 4 rfl (by first | rfl | decide +kernel) rfl (by first | (simp [HeldL]; done) | (simp only [HeldL, List.map_cons, List.map_nil, List.cons_append, List.nil_append, List.set_cons_zero, List.set_cons_succ]; (repeat' first | trivial | rfl | constructor))) (fun H' hH => OpOk.step (ok_conv_str rfl ti_Luint8 ti_string rfl ti_uint8 rfl rfl (rowA_held hH rfl) rfl (bytesOf_ints _))) ?_
   refine any_take 5 rfl (by first | rfl | decide +kernel) rfl (by first | (simp [HeldL]; done) | (simp only [HeldL, List.map_cons, List.map_nil, List.cons_append, List.nil_append, List.set_cons_zero, List.set_cons_succ]; (repeat' first | trivial | rfl | constructor))) (fun H' hH => OpOk.step ((ok_binOp rfl ti_string rfl).eq (x' := .b false) (by show AV.b (!strEq (putS s) (putS s)) = _; rw [strEq_refl]; rfl) rfl)) ?_
   refine any_take 6 rfl (by first | rfl | decide +kernel) rfl (by first | (simp [HeldL]; done) | (simp only [HeldL, List.map_cons, List.map_nil, List.cons_append, List.nil_append, List.set_cons_zero, List.set_cons_succ]; (repeat' first | trivial | rfl | constructor))) (fun H' hH => OpOk.step (OpOk.bool (d := false) (ok_moveb (.inl rfl) rfl) (rfl))) ?_
   refine any_take 7 rfl (by first | rfl | decide +kernel) rfl (by first | (simp [HeldL]; done) | (simp only [HeldL, List.map_cons, List.map_nil, List.cons_append, List.nil_append, List.set_cons_zero, List.set_cons_succ]; (repeat' first | trivial | rfl | constructor))) (fun H' hH => OpOk.step (ok_load rfl ti_api_State (locA_held hH rfl) rfl)) ?_
   refine any_take 8 rfl (by first | rfl | decide +kernel) rfl (by first | (simp [HeldL]; done) | (simp only [HeldL, List.map_cons, List.map_nil, List.cons_append, List.nil_append, List.set_cons_zero, List.set_cons_succ]; (repeat' first | trivial | rfl | constructor))) (fun H' hH => OpOk.step (ok_load rfl ti_api_State (locA_held hH rfl) rfl)) ?_
   refine any_take 10 rfl (by first | rfl | decide +kernel) rfl (by first | (simp [HeldL]; done) | (simp only [HeldL, List.map_cons, List.map_nil, List.cons_append, List.nil_append, List.set_cons_zero, List.set_cons_succ]; (repeat' first | trivial | rfl | constructor))) (fun H' hH => OpOk.step (ok_load rfl ti_api_State (locA_held hH rfl) rfl)) ?_
   refine any_take 11 rfl (by first | rfl | decide +kernel) rfl (by first | (simp [HeldL]; done) | (simp only [HeldL, List.map_cons, List.map_nil, List.cons_append, List.nil_append, List.set_cons_zero, List.set_cons_succ]; (repeat' first | trivial | rfl | constructor))) (fun H' hH => OpOk.step (ok_load rfl ti_api_State (locA_held hH rfl) rfl)) ?_
   refine any_one 9 rfl (by first | rfl | decide +kernel) rfl rfl (ok_call rfl rfl rfl (hsame.plain (by simp [renL, AV.ren, StC_take, StC_ren]) rfl)) (.inr (by first | (simp [HeldL]; done) | (simp only [HeldL, List.map_cons, List.map_nil, List.cons_append, List.nil_append, List.set_cons_zero, List.set_cons_succ]; (repeat' first | trivial | rfl | constructor)))) ?_
   refine any_one 12 rfl (by first | rfl | decide +kernel) rfl rfl (ok_call rfl rfl rfl ((rsame11_ok s t ⟨by omega, by omega⟩ hp6).plain (by simp [renL, AV.ren, StC_take, StC_ren]) rfl)) (.inr (by first | (simp [HeldL]; done) | (simp only [HeldL, List.map_cons, List.map_nil, List.cons_append, List.nil_append, List.set_cons_zero, List.set_cons_succ]; (repeat' first | trivial | rfl | constructor)))) ?_
   refine any_take 13 rfl (by first | rfl | decide +kernel) rfl (by first | (simp [HeldL]; done) | (simp only [HeldL, List.map_cons, List.map_nil, List.cons_append, List.nil_append, List.set_cons_zero, List.set_cons_succ]; (repeat' first | trivial | rfl | constructor))) (fun H' hH => OpOk.step ((ok_binOp rfl ti_bool rfl).eq (x' := .b false) (by simp) rfl)) ?_
   refine any_take 14 rfl (by first | rfl | decide +kernel) rfl (by first | (simp [HeldL]; done) | (simp only [HeldL, List.map_cons, List.map_nil, List.cons_append, List.nil_append, List.set_cons_zero, List.set_cons_succ]; (repeat' first | trivial | rfl | constructor))) (fun H' hH => OpOk.step (OpOk.bool (d := false) (ok_pickb rfl rfl rfl) (rfl))) ?_
   refine any_done rfl ?_
   refine keepK hK8 [2, 5, 31] (by dsimp) (by dsimp) ?_
   refine T.cond_false rfl ?_
   refine T.skip ?_
   refine keepK hK7 [2, 5] (by dsimp) (by dsimp) ?_
   refine T.seq fun K9 hK9 => ?_
   refine T.seq fun K10 hK10 => ?_
   refine T.region ?_ -- region 6
   refine ro rfl rfl (OpOk.step (ok_load rfl ti_api_State rfl rfl)) ?_
   refine ro rfl rfl (ok_call rfl rfl rfl ((rsright_ok s (by omega) (by omega)).plain (by simp [renL, AV.ren, StC_take, StC_ren]) rfl)) ?_
   refine ro rfl rfl (OpOk.step (ok_unOp rfl rfl)) ?_
   refine ro_nil ?_
   refine keepK hK10 [2, 5, 34] (by dsimp) (by dsimp) ?_
   refine T.cond rfl (fun hc => ?_) (fun hc => ?_) -- cond 2
   ·(try simp only [dE] at hc)
    have hn : ¬ RS s := by simpa using hc
    rw [putS_bad hn]
    refine T.seq fun K11 hK11 => ?_
    refine T.region ?_ -- region 7
    refine ro rfl rfl (OpOk.step (ok_move (.inl rfl))) ?_
    refine ro rfl rfl (OpOk.step (ok_len' rfl rfl ti_Luint8 rfl (by first | exact ints_length _ _ | exact rowsA_length _ _ | exact Cms_len _ | exact mapLen _ | rfl))) ?_
    refine ro rfl rfl (OpOk.step ((ok_binOp rfl ti_int rfl).eq (x' := .b true) rfl rfl)) ?_
    refine ro rfl rfl (OpOk.step (OpOk.bool (d := true) (ok_moveb (.inl rfl) rfl) (rfl))) ?_
    refine ro rfl rfl (ok_call rfl rfl rfl (live11_ok.plain rfl rfl)) ?_
    refine ro rfl rfl (OpOk.step (ok_pick rfl rfl)) ?_
    refine ro rfl rfl (OpOk.step (ok_move (.inr rfl))) ?_
    refine ro_nil ?_
    refine keepK hK11 [4] (by dsimp) (by dsimp) ?_
    refine T.ret (hQ _ _ _ rfl ?_).1 -- ret 3
    exact TEnt.fin [] (by decide) (by simp) rfl ⟨rfl, trivial⟩
   ·(try simp only [dE] at hc)
    have hrs : RS s := by simpa using hc
    have hgp : getS (putS s) = (s, 0) := by rw [putS_ok hrs]; exact getS_put hrs
    have hPB : Bytes (putS s) := by rw [putS_ok hrs]; exact encSt_bytes hB
    have hPl : (putS s).length ≤ 140737488355328 := by have := encSt_le hf; rw [putS_ok hrs]; omega
    have hget := sget_ok (putS s) hPB hPl
    rw [hgp] at hget
    dsimp only at hget
    refine T.skip ?_
    refine keepK hK9 [2, 5] (by dsimp) (by dsimp) ?_
    refine T.seq fun K12 hK12 => ?_
    refine T.region ?_ -- region 8
    refine ro rfl rfl (OpOk.step (ok_move (.inl rfl))) ?_
    refine ro rfl rfl (ok_call rfl rfl rfl (hget.plain (by simp [renL, AV.ren, renL_ints]) (by simp [AV.ren, renL, StC_ren]))) ?_
    refine ro rfl rfl (OpOk.step (ok_move (.inl rfl))) ?_
    refine ro rfl rfl (OpOk.step (ok_extract rfl rfl rfl)) ?_
    refine ro rfl rfl (OpOk.step (ok_extract rfl rfl rfl)) ?_
    refine ro rfl rfl (OpOk.step (ok_alloc rfl ti_api_State rfl (by decide))) ?_
    refine ro rfl rfl (OpOk.step (ok_store rfl ti_api_State (by decide) rfl rfl rfl rfl rfl (by first | exact Nat.le_of_ble_eq_true rfl | simp) (by first | exact .inl ⟨rfl, rfl⟩ | exact .inr rfl))) ?_
    refine ro rfl rfl (OpOk.step (ok_move (.inr rfl))) ?_
    refine ro_nil ?_
    refine keepK hK12 [2, 6, 7] (by dsimp) (by dsimp) ?_
    refine T.seq fun K13 hK13 => ?_
    refine T.region ?_ -- region 9
    refine ro rfl rfl (OpOk.step (ok_move (.inl rfl))) ?_
    refine ro rfl rfl (ok_call rfl rfl rfl ((code11_ok 0).plain rfl rfl)) ?_
    refine ro rfl rfl (OpOk.step (ok_binOp rfl ti_int rfl)) ?_
    refine ro rfl rfl (OpOk.step (OpOk.bool (d := true) (ok_moveb (.inl rfl) rfl) (rfl))) ?_
    refine ro rfl rfl (OpOk.step (ok_load rfl ti_api_State rfl rfl)) ?_
    refine ro rfl rfl (OpOk.step (ok_load rfl ti_api_State rfl rfl)) ?_
    refine ro rfl rfl (ok_call rfl rfl rfl (((rsame11_ok s s ⟨by omega, by omega⟩ hp6).plain (by simp [renL, AV.ren, StC_take, StC_ren]) rfl).eq (x' := .b true) (by rw [seB_true (SE_refl _)]) rfl)) ?_
    refine ro rfl rfl (OpOk.step (ok_pick rfl rfl)) ?_
    refine ro rfl rfl (OpOk.step (OpOk.bool (d := true) (ok_moveb (.inl rfl) rfl) (rfl))) ?_
    refine ro rfl rfl (ok_call rfl rfl rfl (live11_ok.plain rfl rfl)) ?_
    refine ro rfl rfl (OpOk.step (ok_pick rfl rfl)) ?_
    refine ro rfl rfl (OpOk.step (ok_move (.inr rfl))) ?_
    refine ro_nil ?_
    refine keepK hK13 [4] (by dsimp) (by dsimp) ?_
    refine T.ret (hQ _ _ _ rfl ?_).1 -- ret 4
    exact TEnt.fin [] (by decide) (by simp) rfl ⟨rfl, trivial⟩
theorem statePuts_row (a b : StT) (h1 : a.2.2.2.1.length ≤ 140737488355328) (h2 : a.2.2.2.2.length ≤ 140737488355328) (h3 : ∀ z ∈ a.2.2.2.2, z.2.2.2.2.2.length ≤ 140737488355328 ∧ ∀ p ∈ z.2.2.2.2.2, p.2.length ≤ 140737488355328) (h4 : ∀ z ∈ a.2.2.2.2, ∀ p ∈ z.2.2.2.2.2, Bytes p.2) (g1 : b.2.2.2.1.length ≤ 140737488355328) (g2 : b.2.2.2.2.length ≤ 140737488355328) (g3 : ∀ z ∈ b.2.2.2.2, z.2.2.2.2.2.length ≤ 140737488355328 ∧ ∀ p ∈ z.2.2.2.2.2, p.2.length ≤ 140737488355328) : CSpec Try.prog 8 [] [.agg (StR a), .agg (StR b)] [] (.b true) := by
  rw [StR_eq, StR_eq]
  refine statePuts_ok (stOf a) (stOf b) (stOf_sized h1 h2 h3) (stOf_sized g1 g2 g3) ?_
  intro z hz p hp
  obtain ⟨y, hy, rfl⟩ := List.mem_map.1 hz
  obtain ⟨q, hq, rfl⟩ := List.mem_map.1 hp
  exact h4 y hy q hq
end Go.Proofs.Ytlegolcbjjjofaa.AmF
