/- Walks over the abstract machine: states of the log: the document's right ones. -/
import Derived.Test.YtlegolcbjjjofaaAfState10
namespace Go.Proofs.Ytlegolcbjjjofaa.AmF
open Go Go.AM
set_option maxRecDepth 100000
set_option maxHeartbeats 4000000
set_option linter.unusedSimpArgs false
set_option linter.unusedVariables false
attribute [local simp] tkeep tget tput ev cav argsTM pickA normT putA splice AV.cells ints_length rowsA_length Prs_len Zns_len
theorem DS_pair {l : List Zn} {k i : Nat} {a z : Zn} (hk : l[k]? = some a) (hi : l[i]? = some z) (hki : k < i) (e : a.slot = z.slot) (h : z.slot ≠ -1) : ¬ DS l := by
  intro hd
  unfold DS at hd
  rw [List.pairwise_iff_getElem] at hd
  obtain ⟨h1, e1⟩ := List.getElem?_eq_some_iff.1 hk
  obtain ⟨h2, e2⟩ := List.getElem?_eq_some_iff.1 hi
  have := hd k i h1 h2 hki
  rw [e1, e2] at this
  exact h (this e)
theorem DS_step {l : List Zn} {i : Nat} {z : Zn} (hz : l[i]? = some z) (h : DS (l.take i)) (hn : ∀ a ∈ l.take i, a.slot = z.slot → z.slot = -1) : DS (l.take (i + 1)) := by
  rw [take_succ_get hz]
  unfold DS at *
  rw [List.pairwise_append]
  refine ⟨h, List.pairwise_singleton _ _, fun a ha b hb e => ?_⟩
  rw [List.mem_singleton.1 hb] at e ⊢
  exact hn a ha e
theorem RS_last' {s : St} (h1 : chkC s.c = 0 ∧ (1 ≤ s.ep ∧ s.ep ≤ 1099511627776) ∧ (0 ≤ s.sq ∧ s.sq ≤ 1099511627776) ∧ (s.st.length : Int) = s.c.mem ∧ (s.zs.length : Int) = s.c.zon) (h2 : ∀ n ∈ s.st, 0 ≤ n ∧ n ≤ 2) (h3 : ∀ z ∈ s.zs, RZ s.c (decide (2 ∈ s.st)) z) (h4 : DS s.zs) : decide (RS s) = decide (((s.st.countP oddP : Nat) : Int) < 2) := by
  rw [RS_last h1 h2 h3 h4, decide_eq_decide]; omega
theorem rsright_ok (s : St) (hn : s.st.length ≤ 1000000000) (hm : s.zs.length ≤ 1000000000) : CSpec Try.prog 35 [] [.agg (StC s)] [] (.b (decide (RS s))) := by
 refine CSpec.body Try.func35 rfl rfl rfl rfl rfl fun Q hQ => ?_
 refine T.seq fun K1 hK1 => ?_
 refine T.region ?_ -- region 0
 refine ro rfl rfl (OpOk.step (ok_box (n := 15) rfl rfl (by decide))) ?_
 refine ro rfl rfl (OpOk.step (ok_moveb (c := false) (.inr rfl) rfl)) ?_
 refine ro_nil ?_
 refine keepK hK1 [1] (by dsimp) (by dsimp) ?_
 refine T.seq fun K2 hK2 => ?_
 refine T.seq fun K3 hK3 => ?_
 refine T.region ?_ -- region 1
 refine ro rfl rfl (OpOk.step (ok_fieldAddr rfl ti_api_State rfl rfl ti_api_Conf (by decide) rfl)) ?_
 refine ro rfl rfl (OpOk.step (ok_load rfl ti_api_Conf rfl rfl)) ?_
 refine ro rfl rfl (ok_call rfl rfl rfl ((rcheck_ok s.c).plain (by show renL _ [.agg (CC s.c)] = _; simp [renL, AV.ren, CC_ren]) rfl)) ?_
 refine ro rfl rfl (OpOk.step (ok_binOp rfl ti_int rfl)) ?_
 refine ro_case rfl rfl (OpOk.step (ok_moveb (.inl rfl) rfl)) (fun hb => ?_) (fun hb => ?_)
 ·(try simp only [dE] at hb)
  refine ro_skip rfl rfl ?_
  refine ro_skip rfl rfl ?_
  refine ro_skip rfl rfl ?_
  refine ro rfl rfl (OpOk.step (ok_pickb (t := true) (d := true) rfl rfl rfl)) ?_
  refine ro rfl rfl (OpOk.step (ok_moveb (c := true) (.inl rfl) rfl)) ?_
  refine ro_skip rfl rfl ?_
  refine ro_skip rfl rfl ?_
  refine ro_skip rfl rfl ?_
  refine ro rfl rfl (OpOk.step (ok_pickb (t := true) (d := true) rfl rfl rfl)) ?_
  refine ro rfl rfl (OpOk.step (ok_moveb (c := true) (.inl rfl) rfl)) ?_
  refine ro_skip rfl rfl ?_
  refine ro_skip rfl rfl ?_
  refine ro_skip rfl rfl ?_
  refine ro rfl rfl (OpOk.step (ok_pickb (t := true) (d := true) rfl rfl rfl)) ?_
  refine ro rfl rfl (OpOk.step (ok_moveb (c := true) (.inl rfl) rfl)) ?_
  refine ro_skip rfl rfl ?_
  refine ro_skip rfl rfl ?_
  refine ro_skip rfl rfl ?_
  refine ro rfl rfl (OpOk.step (ok_pickb (t := true) (d := true) rfl rfl rfl)) ?_
  refine ro rfl rfl (OpOk.step (ok_moveb (c := true) (.inl rfl) rfl)) ?_
  refine ro_skip rfl rfl ?_
  refine ro_skip rfl rfl ?_
  refine ro_skip rfl rfl ?_
  refine ro_skip rfl rfl ?_
  refine ro_skip rfl rfl ?_
  refine ro_skip rfl rfl ?_
  refine ro_skip rfl rfl ?_
  refine ro rfl rfl (OpOk.step (ok_pickb (t := true) (d := true) rfl rfl rfl)) ?_
  refine ro rfl rfl (OpOk.step (ok_moveb (c := true) (.inl rfl) rfl)) ?_
  refine ro_skip rfl rfl ?_
  refine ro_skip rfl rfl ?_
  refine ro_skip rfl rfl ?_
  refine ro_skip rfl rfl ?_
  refine ro_skip rfl rfl ?_
  refine ro_skip rfl rfl ?_
  refine ro_skip rfl rfl ?_
  refine ro rfl rfl (OpOk.step (ok_pickb (t := true) (d := true) rfl rfl rfl)) ?_
  refine ro_nil ?_
  refine keepK hK3 [1, 48] (by dsimp) (by dsimp) ?_
  refine T.cond_true rfl ?_
  refine T.seq fun K4 hK4 => ?_
  refine T.region ?_ -- region 2
  refine ro rfl rfl (OpOk.step (ok_moveb (c := false) (.inr rfl) rfl)) ?_
  refine ro_nil ?_
  refine keepK hK4 [2] (by dsimp) (by dsimp) ?_
  refine T.ret (hQ _ _ _ rfl ?_).1 -- ret 1
  exact by (rw [decide_eq_false (fun h => by obtain ⟨h1, h2, h3, h4, h5, h⟩ := h; omega)]; exact TEnt.fin [] (by decide) (by simp) rfl ⟨rfl, trivial⟩)
 ·(try simp only [dE] at hb)
  refine ro rfl rfl (OpOk.step (ok_fieldAddr rfl ti_api_State rfl rfl ti_int (by decide) rfl)) ?_
  refine ro rfl rfl (OpOk.step (ok_load rfl ti_int rfl rfl)) ?_
  refine ro rfl rfl (OpOk.step (ok_binOp rfl ti_int rfl)) ?_
  refine ro rfl rfl (OpOk.step (ok_pick rfl rfl)) ?_
  refine ro_case rfl rfl (OpOk.step (ok_moveb (.inl rfl) rfl)) (fun hb => ?_) (fun hb => ?_)
  ·(try simp only [dE] at hb)
   refine ro_skip rfl rfl ?_
   refine ro_skip rfl rfl ?_
   refine ro_skip rfl rfl ?_
   refine ro rfl rfl (OpOk.step (ok_pickb (t := true) (d := true) rfl rfl rfl)) ?_
   refine ro rfl rfl (OpOk.step (ok_moveb (c := true) (.inl rfl) rfl)) ?_
   refine ro_skip rfl rfl ?_
   refine ro_skip rfl rfl ?_
   refine ro_skip rfl rfl ?_
   refine ro rfl rfl (OpOk.step (ok_pickb (t := true) (d := true) rfl rfl rfl)) ?_
   refine ro rfl rfl (OpOk.step (ok_moveb (c := true) (.inl rfl) rfl)) ?_
   refine ro_skip rfl rfl ?_
   refine ro_skip rfl rfl ?_
   refine ro_skip rfl rfl ?_
   refine ro rfl rfl (OpOk.step (ok_pickb (t := true) (d := true) rfl rfl rfl)) ?_
   refine ro rfl rfl (OpOk.step (ok_moveb (c := true) (.inl rfl) rfl)) ?_
   refine ro_skip rfl rfl ?_
   refine ro_skip rfl rfl ?_
   refine ro_skip rfl rfl ?_
   refine ro_skip rfl rfl ?_
   refine ro_skip rfl rfl ?_
   refine ro_skip rfl rfl ?_
   refine ro_skip rfl rfl ?_
   refine ro rfl rfl (OpOk.step (ok_pickb (t := true) (d := true) rfl rfl rfl)) ?_
   refine ro rfl rfl (OpOk.step (ok_moveb (c := true) (.inl rfl) rfl)) ?_
   refine ro_skip rfl rfl ?_
   refine ro_skip rfl rfl ?_
   refine ro_skip rfl rfl ?_
   refine ro_skip rfl rfl ?_
   refine ro_skip rfl rfl ?_
   refine ro_skip rfl rfl ?_
   refine ro_skip rfl rfl ?_
   refine ro rfl rfl (OpOk.step (ok_pickb (t := true) (d := true) rfl rfl rfl)) ?_
   refine ro_nil ?_
   refine keepK hK3 [1, 48] (by dsimp) (by dsimp) ?_
   refine T.cond_true rfl ?_
   refine T.seq fun K5 hK5 => ?_
   refine T.region ?_ -- region 2
   refine ro rfl rfl (OpOk.step (ok_moveb (c := false) (.inr rfl) rfl)) ?_
   refine ro_nil ?_
   refine keepK hK5 [2] (by dsimp) (by dsimp) ?_
   refine T.ret (hQ _ _ _ rfl ?_).1 -- ret 2
   exact by (rw [decide_eq_false (fun h => by obtain ⟨h1, h2, h3, h4, h5, h⟩ := h; omega)]; exact TEnt.fin [] (by decide) (by simp) rfl ⟨rfl, trivial⟩)
  ·(try simp only [dE] at hb)
   refine ro rfl rfl (OpOk.step (ok_fieldAddr rfl ti_api_State rfl rfl ti_int (by decide) rfl)) ?_
   refine ro rfl rfl (OpOk.step (ok_load rfl ti_int rfl rfl)) ?_
   refine ro rfl rfl (OpOk.step (ok_binOp rfl ti_int rfl)) ?_
   refine ro rfl rfl (OpOk.step (ok_pick rfl rfl)) ?_
   refine ro_case rfl rfl (OpOk.step (ok_moveb (.inl rfl) rfl)) (fun hb => ?_) (fun hb => ?_)
   ·(try simp only [dE] at hb)
    refine ro_skip rfl rfl ?_
    refine ro_skip rfl rfl ?_
    refine ro_skip rfl rfl ?_
    refine ro rfl rfl (OpOk.step (ok_pickb (t := true) (d := true) rfl rfl rfl)) ?_
    refine ro rfl rfl (OpOk.step (ok_moveb (c := true) (.inl rfl) rfl)) ?_
    refine ro_skip rfl rfl ?_
    refine ro_skip rfl rfl ?_
    refine ro_skip rfl rfl ?_
    refine ro rfl rfl (OpOk.step (ok_pickb (t := true) (d := true) rfl rfl rfl)) ?_
    refine ro rfl rfl (OpOk.step (ok_moveb (c := true) (.inl rfl) rfl)) ?_
    refine ro_skip rfl rfl ?_
    refine ro_skip rfl rfl ?_
    refine ro_skip rfl rfl ?_
    refine ro_skip rfl rfl ?_
    refine ro_skip rfl rfl ?_
    refine ro_skip rfl rfl ?_
    refine ro_skip rfl rfl ?_
    refine ro rfl rfl (OpOk.step (ok_pickb (t := true) (d := true) rfl rfl rfl)) ?_
    refine ro rfl rfl (OpOk.step (ok_moveb (c := true) (.inl rfl) rfl)) ?_
    refine ro_skip rfl rfl ?_
    refine ro_skip rfl rfl ?_
    refine ro_skip rfl rfl ?_
    refine ro_skip rfl rfl ?_
    refine ro_skip rfl rfl ?_
    refine ro_skip rfl rfl ?_
    refine ro_skip rfl rfl ?_
    refine ro rfl rfl (OpOk.step (ok_pickb (t := true) (d := true) rfl rfl rfl)) ?_
    refine ro_nil ?_
    refine keepK hK3 [1, 48] (by dsimp) (by dsimp) ?_
    refine T.cond_true rfl ?_
    refine T.seq fun K6 hK6 => ?_
    refine T.region ?_ -- region 2
    refine ro rfl rfl (OpOk.step (ok_moveb (c := false) (.inr rfl) rfl)) ?_
    refine ro_nil ?_
    refine keepK hK6 [2] (by dsimp) (by dsimp) ?_
    refine T.ret (hQ _ _ _ rfl ?_).1 -- ret 3
    exact by (rw [decide_eq_false (fun h => by obtain ⟨h1, h2, h3, h4, h5, h⟩ := h; omega)]; exact TEnt.fin [] (by decide) (by simp) rfl ⟨rfl, trivial⟩)
   ·(try simp only [dE] at hb)
    refine ro rfl rfl (OpOk.step (ok_fieldAddr rfl ti_api_State rfl rfl ti_int (by decide) rfl)) ?_
    refine ro rfl rfl (OpOk.step (ok_load rfl ti_int rfl rfl)) ?_
    refine ro rfl rfl (OpOk.step (ok_binOp rfl ti_int rfl)) ?_
    refine ro rfl rfl (OpOk.step (ok_pick rfl rfl)) ?_
    refine ro_case rfl rfl (OpOk.step (ok_moveb (.inl rfl) rfl)) (fun hb => ?_) (fun hb => ?_)
    ·(try simp only [dE] at hb)
     refine ro_skip rfl rfl ?_
     refine ro_skip rfl rfl ?_
     refine ro_skip rfl rfl ?_
     refine ro rfl rfl (OpOk.step (ok_pickb (t := true) (d := true) rfl rfl rfl)) ?_
     refine ro rfl rfl (OpOk.step (ok_moveb (c := true) (.inl rfl) rfl)) ?_
     refine ro_skip rfl rfl ?_
     refine ro_skip rfl rfl ?_
     refine ro_skip rfl rfl ?_
     refine ro_skip rfl rfl ?_
     refine ro_skip rfl rfl ?_
     refine ro_skip rfl rfl ?_
     refine ro_skip rfl rfl ?_
     refine ro rfl rfl (OpOk.step (ok_pickb (t := true) (d := true) rfl rfl rfl)) ?_
     refine ro rfl rfl (OpOk.step (ok_moveb (c := true) (.inl rfl) rfl)) ?_
     refine ro_skip rfl rfl ?_
     refine ro_skip rfl rfl ?_
     refine ro_skip rfl rfl ?_
     refine ro_skip rfl rfl ?_
     refine ro_skip rfl rfl ?_
     refine ro_skip rfl rfl ?_
     refine ro_skip rfl rfl ?_
     refine ro rfl rfl (OpOk.step (ok_pickb (t := true) (d := true) rfl rfl rfl)) ?_
     refine ro_nil ?_
     refine keepK hK3 [1, 48] (by dsimp) (by dsimp) ?_
     refine T.cond_true rfl ?_
     refine T.seq fun K7 hK7 => ?_
     refine T.region ?_ -- region 2
     refine ro rfl rfl (OpOk.step (ok_moveb (c := false) (.inr rfl) rfl)) ?_
     refine ro_nil ?_
     refine keepK hK7 [2] (by dsimp) (by dsimp) ?_
     refine T.ret (hQ _ _ _ rfl ?_).1 -- ret 4
     exact by (rw [decide_eq_false (fun h => by obtain ⟨h1, h2, h3, h4, h5, h⟩ := h; omega)]; exact TEnt.fin [] (by decide) (by simp) rfl ⟨rfl, trivial⟩)
    ·(try simp only [dE] at hb)
     refine ro rfl rfl (OpOk.step (ok_fieldAddr rfl ti_api_State rfl rfl ti_int (by decide) rfl)) ?_
     refine ro rfl rfl (OpOk.step (ok_load rfl ti_int rfl rfl)) ?_
     refine ro rfl rfl (OpOk.step (ok_binOp rfl ti_int rfl)) ?_
     refine ro rfl rfl (OpOk.step (ok_pick rfl rfl)) ?_
     refine ro_case rfl rfl (OpOk.step (ok_moveb (.inl rfl) rfl)) (fun hb => ?_) (fun hb => ?_)
     ·(try simp only [dE] at hb)
      refine ro_skip rfl rfl ?_
      refine ro_skip rfl rfl ?_
      refine ro_skip rfl rfl ?_
      refine ro_skip rfl rfl ?_
      refine ro_skip rfl rfl ?_
      refine ro_skip rfl rfl ?_
      refine ro_skip rfl rfl ?_
      refine ro rfl rfl (OpOk.step (ok_pickb (t := true) (d := true) rfl rfl rfl)) ?_
      refine ro rfl rfl (OpOk.step (ok_moveb (c := true) (.inl rfl) rfl)) ?_
      refine ro_skip rfl rfl ?_
      refine ro_skip rfl rfl ?_
      refine ro_skip rfl rfl ?_
      refine ro_skip rfl rfl ?_
      refine ro_skip rfl rfl ?_
      refine ro_skip rfl rfl ?_
      refine ro_skip rfl rfl ?_
      refine ro rfl rfl (OpOk.step (ok_pickb (t := true) (d := true) rfl rfl rfl)) ?_
      refine ro_nil ?_
      refine keepK hK3 [1, 48] (by dsimp) (by dsimp) ?_
      refine T.cond_true rfl ?_
      refine T.seq fun K8 hK8 => ?_
      refine T.region ?_ -- region 2
      refine ro rfl rfl (OpOk.step (ok_moveb (c := false) (.inr rfl) rfl)) ?_
      refine ro_nil ?_
      refine keepK hK8 [2] (by dsimp) (by dsimp) ?_
      refine T.ret (hQ _ _ _ rfl ?_).1 -- ret 5
      exact by (rw [decide_eq_false (fun h => by obtain ⟨h1, h2, h3, h4, h5, h⟩ := h; omega)]; exact TEnt.fin [] (by decide) (by simp) rfl ⟨rfl, trivial⟩)
     ·(try simp only [dE] at hb)
      refine ro rfl rfl (OpOk.step (ok_fieldAddr rfl ti_api_State rfl rfl ti_Lint (by decide) rfl)) ?_
      refine ro rfl rfl (OpOk.step (ok_load rfl ti_Lint rfl rfl)) ?_
      refine ro rfl rfl (OpOk.step (ok_len' rfl rfl ti_Lint rfl (by first | exact ints_length _ _ | exact rowsA_length _ _ | exact Cms_len _ | exact mapLen _ | rfl))) ?_
      refine ro rfl rfl (OpOk.step (ok_fieldAddr rfl ti_api_State rfl rfl ti_api_Conf (by decide) rfl)) ?_
      refine ro rfl rfl (OpOk.step (ok_fieldAddr rfl ti_api_Conf rfl rfl ti_int (by decide) rfl)) ?_
      refine ro rfl rfl (OpOk.step (ok_load rfl ti_int rfl rfl)) ?_
      refine ro rfl rfl (OpOk.step (ok_binOp rfl ti_int rfl)) ?_
      refine ro rfl rfl (OpOk.step (ok_pick rfl rfl)) ?_
      refine ro_case rfl rfl (OpOk.step (ok_moveb (.inl rfl) rfl)) (fun hb => ?_) (fun hb => ?_)
      ·(try simp only [dE] at hb)
       refine ro_skip rfl rfl ?_
       refine ro_skip rfl rfl ?_
       refine ro_skip rfl rfl ?_
       refine ro_skip rfl rfl ?_
       refine ro_skip rfl rfl ?_
       refine ro_skip rfl rfl ?_
       refine ro_skip rfl rfl ?_
       refine ro rfl rfl (OpOk.step (ok_pickb (t := true) (d := true) rfl rfl rfl)) ?_
       refine ro_nil ?_
       refine keepK hK3 [1, 48] (by dsimp) (by dsimp) ?_
       refine T.cond_true rfl ?_
       refine T.seq fun K9 hK9 => ?_
       refine T.region ?_ -- region 2
       refine ro rfl rfl (OpOk.step (ok_moveb (c := false) (.inr rfl) rfl)) ?_
       refine ro_nil ?_
       refine keepK hK9 [2] (by dsimp) (by dsimp) ?_
       refine T.ret (hQ _ _ _ rfl ?_).1 -- ret 6
       exact by (rw [decide_eq_false (fun h => by obtain ⟨h1, h2, h3, h4, h5, h⟩ := h; omega)]; exact TEnt.fin [] (by decide) (by simp) rfl ⟨rfl, trivial⟩)
      ·(try simp only [dE] at hb)
       refine ro rfl rfl (OpOk.step (ok_fieldAddr rfl ti_api_State rfl rfl ti_Lapi_Zone (by decide) rfl)) ?_
       refine ro rfl rfl (OpOk.step (ok_load rfl ti_Lapi_Zone rfl rfl)) ?_
       refine ro rfl rfl (OpOk.step (ok_len' rfl rfl ti_Lapi_Zone rfl (by first | exact ints_length _ _ | exact rowsA_length _ _ | exact Cms_len _ | exact mapLen _ | rfl))) ?_
       refine ro rfl rfl (OpOk.step (ok_fieldAddr rfl ti_api_State rfl rfl ti_api_Conf (by decide) rfl)) ?_
       refine ro rfl rfl (OpOk.step (ok_fieldAddr rfl ti_api_Conf rfl rfl ti_int (by decide) rfl)) ?_
       refine ro rfl rfl (OpOk.step (ok_load rfl ti_int rfl rfl)) ?_
       refine ro rfl rfl (OpOk.step (ok_binOp rfl ti_int rfl)) ?_
       refine ro rfl rfl (OpOk.step (ok_pick rfl rfl)) ?_
       refine ro_nil ?_
       refine keepK hK3 [1, 48] (by dsimp) (by dsimp) ?_
       refine T.cond rfl (fun hc => ?_) (fun hc => ?_) -- cond 1
       ·(try simp only [dE] at hc)
        try rw [Zns_len] at hc
        refine T.seq fun K10 hK10 => ?_
        refine T.region ?_ -- region 2
        refine ro rfl rfl (OpOk.step (ok_moveb (c := false) (.inr rfl) rfl)) ?_
        refine ro_nil ?_
        refine keepK hK10 [2] (by dsimp) (by dsimp) ?_
        refine T.ret (hQ _ _ _ rfl ?_).1 -- ret 7
        exact by (rw [decide_eq_false (fun h => by obtain ⟨h1, h2, h3, h4, h5, h⟩ := h; omega)]; exact TEnt.fin [] (by decide) (by simp) rfl ⟨rfl, trivial⟩)
       ·(try simp only [dE] at hc)
        try rw [Zns_len] at hc
        have hhead : chkC s.c = 0 ∧ (1 ≤ s.ep ∧ s.ep ≤ 1099511627776) ∧ (0 ≤ s.sq ∧ s.sq ≤ 1099511627776) ∧ (s.st.length : Int) = s.c.mem ∧ (s.zs.length : Int) = s.c.zon := by omega
        have hck := hhead.1
        refine T.skip ?_
        refine keepK hK2 [1] (by dsimp) (by dsimp) ?_
        refine T.seq fun K11 hK11 => ?_
        refine T.region ?_ -- region 3
        refine ro rfl rfl (OpOk.step (ok_move (.inr rfl))) ?_
        refine ro_nil ?_
        refine keepK hK11 [1, 3] (by dsimp) (by dsimp) ?_
        refine T.seq fun K12 hK12 => ?_
        refine T.seq fun K13 hK13 => ?_
        refine T.region ?_ -- region 4
        refine ro rfl rfl (OpOk.step (ok_move (.inr rfl))) ?_
        refine ro_nil ?_
        refine keepK hK13 [1, 3, 4] (by dsimp) (by dsimp) ?_
        refine T.block ?_
        refine T.loopI (ι := Nat) (fun i => i ≤ s.st.length ∧ ∀ n ∈ s.st.take i, 0 ≤ n ∧ n ≤ 2) (fun i => s.st.length - i) (fun i => ([(1, .ref 0 0 0), (3, .int ((s.st.take i).countP oddP)), (4, .int i)], [some (StB s)])) 0 ⟨Nat.zero_le _, fun y hy => by simp at hy⟩ (TEnt.toH rfl ⟨rfl, rfl, rfl, trivial⟩) (fun i hi => ?_) -- loop 1
        obtain ⟨hil, hall⟩ := hi
        refine T.seq fun K14 hK14 => ?_
        refine T.seq fun K15 hK15 => ?_
        refine T.region ?_ -- region 5
        refine ro rfl rfl (OpOk.step (ok_move (.inl rfl))) ?_
        refine ro rfl rfl (OpOk.step (ok_fieldAddr rfl ti_api_State rfl rfl ti_Lint (by decide) rfl)) ?_
        refine ro rfl rfl (OpOk.step (ok_load rfl ti_Lint rfl rfl)) ?_
        refine ro rfl rfl (OpOk.step (ok_len' rfl rfl ti_Lint rfl (by first | exact ints_length _ _ | exact rowsA_length _ _ | exact Cms_len _ | exact mapLen _ | rfl))) ?_
        refine ro rfl rfl (OpOk.step (ok_binOp rfl ti_int rfl)) ?_
        refine ro_nil ?_
        refine keepK hK15 [1, 3, 4, 53] (by dsimp) (by dsimp) ?_
        refine T.cond rfl (fun hc => ?_) (fun hc => ?_) -- cond 2
        ·(try simp only [dE] at hc)
         obtain ⟨n, hin⟩ : ∃ n, s.st[i]? = some n := ⟨_, List.getElem?_eq_getElem (by omega)⟩
         have hcl := countP_take_le (l := s.st) i
         refine T.skip ?_
         refine keepK hK14 [1, 3, 4] (by dsimp) (by dsimp) ?_
         refine T.seq fun K16 hK16 => ?_
         refine T.block ?_
         refine T.seq fun K17 hK17 => ?_
         refine T.seq fun K18 hK18 => ?_
         refine T.region ?_ -- region 7
         refine ro rfl rfl (OpOk.step (ok_fieldAddr rfl ti_api_State rfl rfl ti_Lint (by decide) rfl)) ?_
         refine ro rfl rfl (OpOk.step (ok_load rfl ti_Lint rfl rfl)) ?_
         refine ro rfl rfl (OpOk.step (ok_move (.inl rfl))) ?_
         refine ro rfl rfl (OpOk.step (by exact ok_index_ints rfl ti_Lint rfl ti_int rfl rfl rfl (by omega) (by simpa using hin))) ?_
         refine ro rfl rfl (OpOk.step (ok_load rfl ti_int rfl rfl)) ?_
         refine ro rfl rfl (OpOk.step (ok_binOp rfl ti_int rfl)) ?_
         refine ro_case rfl rfl (OpOk.step (ok_moveb (.inl rfl) rfl)) (fun hb => ?_) (fun hb => ?_)
         ·(try simp only [dE] at hb)
          refine ro_skip rfl rfl ?_
          refine ro_skip rfl rfl ?_
          refine ro_skip rfl rfl ?_
          refine ro_skip rfl rfl ?_
          refine ro_skip rfl rfl ?_
          refine ro_skip rfl rfl ?_
          refine ro rfl rfl (OpOk.step (ok_pickb (t := true) (d := true) rfl rfl rfl)) ?_
          refine ro_nil ?_
          refine keepK hK18 [1, 3, 4, 69] (by dsimp) (by dsimp) ?_
          refine T.cond_true rfl ?_
          refine T.seq fun K19 hK19 => ?_
          refine T.region ?_ -- region 8
          refine ro rfl rfl (OpOk.step (ok_moveb (c := false) (.inr rfl) rfl)) ?_
          refine ro_nil ?_
          refine keepK hK19 [2] (by dsimp) (by dsimp) ?_
          refine T.ret (hQ _ _ _ rfl ?_).1 -- ret 8
          exact by (rw [decide_eq_false (RS_st (by assumption) (by omega))]; exact TEnt.fin [] (by decide) (by simp) rfl ⟨rfl, trivial⟩)
         ·(try simp only [dE] at hb)
          refine ro rfl rfl (OpOk.step (ok_fieldAddr rfl ti_api_State rfl rfl ti_Lint (by decide) rfl)) ?_
          refine ro rfl rfl (OpOk.step (ok_load rfl ti_Lint rfl rfl)) ?_
          refine ro rfl rfl (OpOk.step (ok_move (.inl rfl))) ?_
          refine ro rfl rfl (OpOk.step (by exact ok_index_ints rfl ti_Lint rfl ti_int rfl rfl rfl (by omega) (by simpa using hin))) ?_
          refine ro rfl rfl (OpOk.step (ok_load rfl ti_int rfl rfl)) ?_
          refine ro rfl rfl (OpOk.step (ok_binOp rfl ti_int rfl)) ?_
          refine ro rfl rfl (OpOk.step (ok_pick rfl rfl)) ?_
          refine ro_nil ?_
          refine keepK hK18 [1, 3, 4, 69] (by dsimp) (by dsimp) ?_
          refine T.cond rfl (fun hc => ?_) (fun hc => ?_) -- cond 3
          ·(try simp only [dE] at hc)
           refine T.seq fun K20 hK20 => ?_
           refine T.region ?_ -- region 8
           refine ro rfl rfl (OpOk.step (ok_moveb (c := false) (.inr rfl) rfl)) ?_
           refine ro_nil ?_
           refine keepK hK20 [2] (by dsimp) (by dsimp) ?_
           refine T.ret (hQ _ _ _ rfl ?_).1 -- ret 9
           exact by (rw [decide_eq_false (RS_st (by assumption) (by omega))]; exact TEnt.fin [] (by decide) (by simp) rfl ⟨rfl, trivial⟩)
          ·(try simp only [dE] at hc)
           refine T.skip ?_
           refine keepK hK17 [1, 3, 4] (by dsimp) (by dsimp) ?_
           refine T.seq fun K21 hK21 => ?_
           refine T.region ?_ -- region 9
           refine ro rfl rfl (OpOk.step (ok_fieldAddr rfl ti_api_State rfl rfl ti_Lint (by decide) rfl)) ?_
           refine ro rfl rfl (OpOk.step (ok_load rfl ti_Lint rfl rfl)) ?_
           refine ro rfl rfl (OpOk.step (ok_move (.inl rfl))) ?_
           refine ro rfl rfl (OpOk.step (by exact ok_index_ints rfl ti_Lint rfl ti_int rfl rfl rfl (by omega) (by simpa using hin))) ?_
           refine ro rfl rfl (OpOk.step (ok_load rfl ti_int rfl rfl)) ?_
           refine ro rfl rfl (OpOk.step (ok_binOp rfl ti_int rfl)) ?_
           refine ro_nil ?_
           refine keepK hK21 [1, 3, 4, 75] (by dsimp) (by dsimp) ?_
           refine T.cond rfl (fun hc => ?_) (fun hc => ?_) -- cond 4
           ·(try simp only [dE] at hc)
            have hcs := countP_snoc hin
            rw [show oddP n = true by simp [oddP]; omega, if_pos rfl] at hcs
            refine T.region ?_ -- region 10
            refine ro rfl rfl (OpOk.step (ok_move (.inl rfl))) ?_
            refine ro rfl rfl (OpOk.step (ok_add64 rfl ti_int rfl rfl (by omega) (by omega))) ?_
            refine ro rfl rfl (OpOk.step (ok_move (.inr rfl))) ?_
            refine ro_nil ?_
            refine keepK hK16 [1, 3, 4] (by dsimp) (by dsimp) ?_
            refine T.region ?_ -- region 6
            refine ro rfl rfl (OpOk.step (ok_move (.inl rfl))) ?_
            refine ro rfl rfl (OpOk.step (ok_add64 rfl ti_int rfl rfl (by omega) (by omega))) ?_
            refine ro rfl rfl (OpOk.step (ok_move (.inr rfl))) ?_
            refine ro_nil ?_
            exact ⟨i + 1, ⟨by omega, all_snoc hin hall (by omega)⟩, by omega, TEnt.toH rfl ⟨rfl, by simp [hcs], rfl, trivial⟩⟩
           ·(try simp only [dE] at hc)
            have hcs := countP_snoc hin
            rw [show oddP n = false by simp [oddP]; omega, if_neg (by decide)] at hcs
            refine T.skip ?_
            refine keepK hK16 [1, 3, 4] (by dsimp) (by dsimp) ?_
            refine T.region ?_ -- region 6
            refine ro rfl rfl (OpOk.step (ok_move (.inl rfl))) ?_
            refine ro rfl rfl (OpOk.step (ok_add64 rfl ti_int rfl rfl (by omega) (by omega))) ?_
            refine ro rfl rfl (OpOk.step (ok_move (.inr rfl))) ?_
            refine ro_nil ?_
            exact ⟨i + 1, ⟨by omega, all_snoc hin hall (by omega)⟩, by omega, TEnt.toH rfl ⟨rfl, by simp [hcs], rfl, trivial⟩⟩
        ·(try simp only [dE] at hc)
         have hin : i = s.st.length := by omega
         subst hin
         rw [List.take_length] at hall
         rw [List.take_length]
         refine T.exit ?_
         refine keepK hK12 [1, 3] (by dsimp) (by dsimp) ?_
         refine T.seq fun K22 hK22 => ?_
         refine T.seq fun K23 hK23 => ?_
         refine T.region ?_ -- region 11
         refine ro rfl rfl (OpOk.step (ok_move (.inr rfl))) ?_
         refine ro_nil ?_
         refine keepK hK23 [1, 3, 5] (by dsimp) (by dsimp) ?_
         refine T.block ?_
         refine T.loopI (ι := Nat) (fun i => i ≤ s.zs.length ∧ (∀ z ∈ s.zs.take i, RZ s.c (decide (2 ∈ s.st)) z) ∧ DS (s.zs.take i)) (fun i => s.zs.length - i) (fun i => ([(1, .ref 0 0 0), (3, .int (s.st.countP oddP)), (5, .int i)], [some (StB s)])) 0 ⟨Nat.zero_le _, fun y hy => by simp at hy, by simp [DS]⟩ (TEnt.toH rfl ⟨rfl, rfl, rfl, trivial⟩) (fun i hi => ?_) -- loop 2
         obtain ⟨hjl, hzs, hds⟩ := hi
         refine T.seq fun K24 hK24 => ?_
         refine T.seq fun K25 hK25 => ?_
         refine T.region ?_ -- region 12
         refine ro rfl rfl (OpOk.step (ok_move (.inl rfl))) ?_
         refine ro rfl rfl (OpOk.step (ok_fieldAddr rfl ti_api_State rfl rfl ti_Lapi_Zone (by decide) rfl)) ?_
         refine ro rfl rfl (OpOk.step (ok_load rfl ti_Lapi_Zone rfl rfl)) ?_
         refine ro rfl rfl (OpOk.step (ok_len' rfl rfl ti_Lapi_Zone rfl (by first | exact ints_length _ _ | exact rowsA_length _ _ | exact Cms_len _ | exact mapLen _ | rfl))) ?_
         refine ro rfl rfl (OpOk.step (ok_binOp rfl ti_int rfl)) ?_
         refine ro_nil ?_
         refine keepK hK25 [1, 3, 5, 82] (by dsimp) (by dsimp) ?_
         refine T.cond rfl (fun hc => ?_) (fun hc => ?_) -- cond 5
         ·(try simp only [dE] at hc)
          rw [Zns_len] at hc
          obtain ⟨z, hz⟩ : ∃ z, s.zs[i]? = some z := ⟨_, List.getElem?_eq_getElem (by omega)⟩
          obtain ⟨w, hw⟩ : ∃ w, w = i := ⟨_, rfl⟩
          subst hw
          refine T.skip ?_
          refine keepK hK24 [1, 3, 5] (by dsimp) (by dsimp) ?_
          refine T.seq fun K26 hK26 => ?_
          refine T.block ?_
          refine T.seq fun K27 hK27 => ?_
          refine T.seq fun K28 hK28 => ?_
          refine T.drawH mixed [] ?_ -- region 14
          refine any_take 0 rfl (by first | rfl | decide +kernel) rfl (HeldL.refl _) (fun H' hH => OpOk.step (ok_load rfl ti_api_State (locA_held hH rfl) rfl)) ?_
          refine any_take 1 rfl (by first | rfl | decide +kernel) rfl (HeldL.refl _) (fun H' hH => OpOk.step (ok_fieldAddr rfl ti_api_State rfl rfl ti_Lapi_Zone (by decide) rfl)) ?_
          refine any_take 2 rfl (by first | rfl | decide +kernel) rfl (HeldL.refl _) (fun H' hH => OpOk.step (ok_load rfl ti_Lapi_Zone (locA_held hH rfl) rfl)) ?_
          refine any_take 3 rfl (by first | rfl | decide +kernel) rfl (HeldL.refl _) (fun H' hH => OpOk.step (ok_move (.inl rfl))) ?_
          refine any_take 4 rfl (by first | rfl | decide +kernel) rfl (HeldL.refl _) (fun H' hH => OpOk.step (by exact ok_index_map (F := ZnC) rfl ti_Lapi_Zone rfl ti_api_Zone rfl rfl rfl hz (by simp [ZnC]))) ?_
          refine any_take 5 rfl (by first | rfl | decide +kernel) rfl (HeldL.refl _) (fun H' hH => OpOk.step (ok_load rfl ti_api_Zone (locA_held hH rfl) rfl)) ?_
          refine any_one 6 rfl (by first | rfl | decide +kernel) rfl rfl (ok_call rfl rfl rfl ((rrzone_ok s z hck hn).plain (by simp [renL, AV.ren, StC_take, StC_ren, ZnC_take, ZnC_ren]) rfl)) (.inr (by first | (simp [HeldL]; done) | (simp only [HeldL, List.map_cons, List.map_nil, List.cons_append, List.nil_append, List.set_cons_zero, List.set_cons_succ]; (repeat' first | trivial | rfl | constructor)))) ?_
          refine any_take 7 rfl (by first | rfl | decide +kernel) rfl (by first | exact HeldL.refl _ | exact HeldL.append _ _ | simp [HeldL]) (fun H' hH => OpOk.step (ok_unOp rfl rfl)) ?_
          refine any_done rfl ?_
          refine keepK hK28 [1, 3, 5, 92] (by dsimp) (by dsimp) ?_
          refine T.cond rfl (fun hc => ?_) (fun hc => ?_) -- cond 6
          ·(try simp only [dE] at hc)
           refine T.seq fun K29 hK29 => ?_
           refine T.region ?_ -- region 15
           refine ro rfl rfl (OpOk.step (ok_moveb (c := false) (.inr rfl) rfl)) ?_
           refine ro_nil ?_
           refine keepK hK29 [2] (by dsimp) (by dsimp) ?_
           refine T.ret (hQ _ _ _ rfl ?_).1 -- ret 10
           exact by (rw [decide_eq_false (RS_zn hz (by assumption))]; exact TEnt.fin [] (by decide) (by simp) rfl ⟨rfl, trivial⟩)
          ·(try simp only [dE] at hc)
           have hrz : RZ s.c (decide (2 ∈ s.st)) z := hc
           refine T.skip ?_
           refine keepK hK27 [1, 3, 5] (by dsimp) (by dsimp) ?_
           refine T.seq fun K30 hK30 => ?_
           refine T.region ?_ -- region 16
           refine ro rfl rfl (OpOk.step (ok_move (.inr rfl))) ?_
           refine ro_nil ?_
           refine keepK hK30 [1, 3, 5, 6] (by dsimp) (by dsimp) ?_
           refine T.block ?_
           refine T.loopI (ι := Nat) (fun k => k ≤ w ∧ ∀ a ∈ s.zs.take k, a.slot = z.slot → z.slot = -1) (fun k => w - k) (fun k => ([(1, .ref 0 0 0), (3, .int (s.st.countP oddP)), (5, .int w), (6, .int k)], [some (StB s)])) 0 ⟨Nat.zero_le _, fun y hy => by simp at hy⟩ (TEnt.toH rfl ⟨rfl, rfl, rfl, rfl, trivial⟩) (fun i hi => ?_) -- loop 3
           obtain ⟨hkl, hno⟩ := hi
           refine T.seq fun K31 hK31 => ?_
           refine T.seq fun K32 hK32 => ?_
           refine T.region ?_ -- region 17
           refine ro rfl rfl (OpOk.step (ok_move (.inl rfl))) ?_
           refine ro rfl rfl (OpOk.step (ok_move (.inl rfl))) ?_
           refine ro rfl rfl (OpOk.step (ok_binOp rfl ti_int rfl)) ?_
           refine ro_nil ?_
           refine keepK hK32 [1, 3, 5, 6, 95] (by dsimp) (by dsimp) ?_
           refine T.cond rfl (fun hc => ?_) (fun hc => ?_) -- cond 7
           ·(try simp only [dE] at hc)
            obtain ⟨a, ha⟩ : ∃ a, s.zs[i]? = some a := ⟨_, List.getElem?_eq_getElem (by omega)⟩
            refine T.skip ?_
            refine keepK hK31 [1, 3, 5, 6] (by dsimp) (by dsimp) ?_
            refine T.seq fun K33 hK33 => ?_
            refine T.block ?_
            refine T.seq fun K34 hK34 => ?_
            refine T.drawH mixed [] ?_ -- region 19
            refine any_take 0 rfl (by first | rfl | decide +kernel) rfl (HeldL.refl _) (fun H' hH => OpOk.step (ok_fieldAddr rfl ti_api_State rfl rfl ti_Lapi_Zone (by decide) rfl)) ?_
            refine any_take 1 rfl (by first | rfl | decide +kernel) rfl (HeldL.refl _) (fun H' hH => OpOk.step (ok_load rfl ti_Lapi_Zone (locA_held hH rfl) rfl)) ?_
            refine any_take 2 rfl (by first | rfl | decide +kernel) rfl (HeldL.refl _) (fun H' hH => OpOk.step (ok_move (.inl rfl))) ?_
            refine any_take 3 rfl (by first | rfl | decide +kernel) rfl (HeldL.refl _) (fun H' hH => OpOk.step (by exact ok_index_map (F := ZnC) rfl ti_Lapi_Zone rfl ti_api_Zone rfl rfl rfl ha (by simp [ZnC]))) ?_
            refine any_take 4 rfl (by first | rfl | decide +kernel) rfl (HeldL.refl _) (fun H' hH => OpOk.step (ok_fieldAddr rfl ti_api_Zone rfl rfl ti_int (by decide) rfl)) ?_
            refine any_take 5 rfl (by first | rfl | decide +kernel) rfl (HeldL.refl _) (fun H' hH => OpOk.step (ok_load rfl ti_int (locA_held hH rfl) rfl)) ?_
            refine any_take 6 rfl (by first | rfl | decide +kernel) rfl (HeldL.refl _) (fun H' hH => OpOk.step (ok_fieldAddr rfl ti_api_State rfl rfl ti_Lapi_Zone (by decide) rfl)) ?_
            refine any_take 7 rfl (by first | rfl | decide +kernel) rfl (HeldL.refl _) (fun H' hH => OpOk.step (ok_load rfl ti_Lapi_Zone (locA_held hH rfl) rfl)) ?_
            refine any_take 8 rfl (by first | rfl | decide +kernel) rfl (HeldL.refl _) (fun H' hH => OpOk.step (ok_move (.inl rfl))) ?_
            refine any_take 9 rfl (by first | rfl | decide +kernel) rfl (HeldL.refl _) (fun H' hH => OpOk.step (by exact ok_index_map (F := ZnC) rfl ti_Lapi_Zone rfl ti_api_Zone rfl rfl rfl hz (by simp [ZnC]))) ?_
            refine any_take 10 rfl (by first | rfl | decide +kernel) rfl (HeldL.refl _) (fun H' hH => OpOk.step (ok_fieldAddr rfl ti_api_Zone rfl rfl ti_int (by decide) rfl)) ?_
            refine any_take 11 rfl (by first | rfl | decide +kernel) rfl (HeldL.refl _) (fun H' hH => OpOk.step (ok_load rfl ti_int (locA_held hH rfl) rfl)) ?_
            refine any_take 12 rfl (by first | rfl | decide +kernel) rfl (HeldL.refl _) (fun H' hH => OpOk.step (ok_binOp rfl ti_int rfl)) ?_
            refine any_take_case 13 rfl (by first | rfl | decide +kernel) rfl (HeldL.refl _) (fun H' hH => OpOk.step (ok_moveb (.inl rfl) rfl)) (fun hb => ?_) (fun hb => ?_)
            ·(try simp only [dE] at hb)
             refine any_take 14 rfl (by first | rfl | decide +kernel) rfl (HeldL.refl _) (fun H' hH => OpOk.step (ok_fieldAddr rfl ti_api_State rfl rfl ti_Lapi_Zone (by decide) rfl)) ?_
             refine any_take 15 rfl (by first | rfl | decide +kernel) rfl (HeldL.refl _) (fun H' hH => OpOk.step (ok_load rfl ti_Lapi_Zone (locA_held hH rfl) rfl)) ?_
             refine any_take 16 rfl (by first | rfl | decide +kernel) rfl (HeldL.refl _) (fun H' hH => OpOk.step (ok_move (.inl rfl))) ?_
             refine any_take 17 rfl (by first | rfl | decide +kernel) rfl (HeldL.refl _) (fun H' hH => OpOk.step (by exact ok_index_map (F := ZnC) rfl ti_Lapi_Zone rfl ti_api_Zone rfl rfl rfl hz (by simp [ZnC]))) ?_
             refine any_take 18 rfl (by first | rfl | decide +kernel) rfl (HeldL.refl _) (fun H' hH => OpOk.step (ok_fieldAddr rfl ti_api_Zone rfl rfl ti_int (by decide) rfl)) ?_
             refine any_take 19 rfl (by first | rfl | decide +kernel) rfl (HeldL.refl _) (fun H' hH => OpOk.step (ok_load rfl ti_int (locA_held hH rfl) rfl)) ?_
             refine any_take 20 rfl (by first | rfl | decide +kernel) rfl (HeldL.refl _) (fun H' hH => OpOk.step (ok_binOp rfl ti_int rfl)) ?_
             refine any_take 21 rfl (by first | rfl | decide +kernel) rfl (HeldL.refl _) (fun H' hH => OpOk.step (ok_pick rfl rfl)) ?_
             refine any_done rfl ?_
             refine keepK hK34 [1, 3, 5, 6, 119] (by dsimp) (by dsimp) ?_
             refine T.cond rfl (fun hc => ?_) (fun hc => ?_) -- cond 8
             ·(try simp only [dE] at hc)
              refine T.seq fun K35 hK35 => ?_
              refine T.region ?_ -- region 20
              refine ro rfl rfl (OpOk.step (ok_moveb (c := false) (.inr rfl) rfl)) ?_
              refine ro_nil ?_
              refine keepK hK35 [2] (by dsimp) (by dsimp) ?_
              refine T.ret (hQ _ _ _ rfl ?_).1 -- ret 11
              exact by (rw [decide_eq_false (RS_ds (DS_pair ha hz (by omega) (by assumption) (by omega)))]; exact TEnt.fin [] (by decide) (by simp) rfl ⟨rfl, trivial⟩)
             ·(try simp only [dE] at hc)
              refine T.skip ?_
              refine keepK hK33 [1, 3, 5, 6] (by dsimp) (by dsimp) ?_
              refine T.region ?_ -- region 18
              refine ro rfl rfl (OpOk.step (ok_move (.inl rfl))) ?_
              refine ro rfl rfl (OpOk.step (ok_add64 rfl ti_int rfl rfl (by omega) (by omega))) ?_
              refine ro rfl rfl (OpOk.step (ok_move (.inr rfl))) ?_
              refine ro_nil ?_
              exact ⟨i + 1, ⟨by omega, all_snoc ha hno (by have := hrz.2.1; omega)⟩, by omega, TEnt.toH rfl ⟨rfl, rfl, rfl, rfl, trivial⟩⟩
            ·(try simp only [dE] at hb)
             refine any_skip 14 rfl (by first | rfl | decide +kernel) rfl (HeldL.refl _) ?_
             refine any_skip 15 rfl (by first | rfl | decide +kernel) rfl (HeldL.refl _) ?_
             refine any_skip 16 rfl (by first | rfl | decide +kernel) rfl (HeldL.refl _) ?_
             refine any_skip 17 rfl (by first | rfl | decide +kernel) rfl (HeldL.refl _) ?_
             refine any_skip 18 rfl (by first | rfl | decide +kernel) rfl (HeldL.refl _) ?_
             refine any_skip 19 rfl (by first | rfl | decide +kernel) rfl (HeldL.refl _) ?_
             refine any_skip 20 rfl (by first | rfl | decide +kernel) rfl (HeldL.refl _) ?_
             refine any_take 21 rfl (by first | rfl | decide +kernel) rfl (HeldL.refl _) (fun H' hH => OpOk.step (ok_pickb (t := false) (d := false) rfl rfl rfl)) ?_
             refine any_done rfl ?_
             refine keepK hK34 [1, 3, 5, 6, 119] (by dsimp) (by dsimp) ?_
             refine T.cond_false rfl ?_
             refine T.skip ?_
             refine keepK hK33 [1, 3, 5, 6] (by dsimp) (by dsimp) ?_
             refine T.region ?_ -- region 18
             refine ro rfl rfl (OpOk.step (ok_move (.inl rfl))) ?_
             refine ro rfl rfl (OpOk.step (ok_add64 rfl ti_int rfl rfl (by omega) (by omega))) ?_
             refine ro rfl rfl (OpOk.step (ok_move (.inr rfl))) ?_
             refine ro_nil ?_
             exact ⟨i + 1, ⟨by omega, all_snoc ha hno (by have := hrz.2.1; omega)⟩, by omega, TEnt.toH rfl ⟨rfl, rfl, rfl, rfl, trivial⟩⟩
           ·(try simp only [dE] at hc)
            have hiw : i = w := by omega
            subst hiw
            refine T.exit ?_
            refine keepK hK26 [1, 3, 5] (by dsimp) (by dsimp) ?_
            refine T.region ?_ -- region 13
            refine ro rfl rfl (OpOk.step (ok_move (.inl rfl))) ?_
            refine ro rfl rfl (OpOk.step (ok_add64 rfl ti_int rfl rfl (by omega) (by omega))) ?_
            refine ro rfl rfl (OpOk.step (ok_move (.inr rfl))) ?_
            refine ro_nil ?_
            exact ⟨i + 1, ⟨by omega, all_snoc hz hzs hrz, DS_step hz hds hno⟩, by omega, TEnt.toH rfl ⟨rfl, rfl, rfl, trivial⟩⟩
         ·(try simp only [dE] at hc)
          rw [Zns_len] at hc
          have hin : i = s.zs.length := by omega
          rw [hin, List.take_length] at hzs hds
          refine T.exit ?_
          refine keepK hK22 [3] (by dsimp) (by dsimp) ?_
          refine T.seq fun K36 hK36 => ?_
          refine T.region ?_ -- region 21
          refine ro rfl rfl (OpOk.step (ok_move (.inl rfl))) ?_
          refine ro rfl rfl (OpOk.step (ok_binOp rfl ti_int rfl)) ?_
          refine ro rfl rfl (OpOk.step (ok_move (.inr rfl))) ?_
          refine ro_nil ?_
          refine keepK hK36 [2] (by dsimp) (by dsimp) ?_
          refine T.ret (hQ _ _ _ rfl ?_).1 -- ret 12
          exact by (rw [RS_last' hhead hall hzs hds]; exact TEnt.fin [] (by decide) (by simp) rfl ⟨rfl, trivial⟩)
end Go.Proofs.Ytlegolcbjjjofaa.AmF
