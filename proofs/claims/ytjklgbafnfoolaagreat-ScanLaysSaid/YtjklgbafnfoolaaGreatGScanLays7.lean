/- Walks over the abstract machine: states of the log: the document's right ones. -/
import Derived.Test.YtjklgbafnfoolaaGreatGScanLays6
namespace Go.Proofs.YtjklgbafnfoolaaGreat.AmF
open Go Go.AM
set_option maxRecDepth 100000
set_option maxHeartbeats 4000000
set_option linter.unusedSimpArgs false
set_option linter.unusedVariables false
attribute [local simp] tkeep tget tput ev cav argsTM pickA normT putA splice AV.cells ints_length rowsA_length Prs_len Zns_len
theorem DS_pair {l : List Zn} {k i : Nat} {a z : Zn} (hk : l[k]? = some a) (hi : l[i]? = some z) (hki : k < i) (e : a.slot = z.slot) (h : z.slot ≠ -1) : ¬ DS l := by
  intro hd
  unfold DS at hd
  rw [List.pairwise_iff_getElem] at hd
  obtain ⟨h1, e1⟩ := List.getElem?_eq_some_iff.1 hk
  obtain ⟨h2, e2⟩ := List.getElem?_eq_some_iff.1 hi
  have := hd k i h1 h2 hki
  rw [e1, e2] at this
  exact h (this e)
theorem DS_step {l : List Zn} {i : Nat} {z : Zn} (hz : l[i]? = some z) (h : DS (l.take i)) (hn : ∀ a ∈ l.take i, a.slot = z.slot → z.slot = -1) : DS (l.take (i + 1)) := by
  rw [take_succ_get hz]
  unfold DS at *
  rw [List.pairwise_append]
  refine ⟨h, List.pairwise_singleton _ _, fun a ha b hb e => ?_⟩
  rw [List.mem_singleton.1 hb] at e ⊢
  exact hn a ha e
theorem RS_last' {s : St} (h1 : chkC s.c = 0 ∧ (1 ≤ s.ep ∧ s.ep ≤ 1099511627776) ∧ (0 ≤ s.sq ∧ s.sq ≤ 1099511627776) ∧ (s.st.length : Int) = s.c.mem ∧ (s.zs.length : Int) = s.c.zon) (h2 : ∀ n ∈ s.st, 0 ≤ n ∧ n ≤ 2) (h3 : ∀ z ∈ s.zs, RZ s.c (decide (2 ∈ s.st)) z) (h4 : DS s.zs) : decide (RS s) = decide (((s.st.countP oddP : Nat) : Int) < 2) := by
  rw [RS_last h1 h2 h3 h4, decide_eq_decide]; omega
theorem rsright_ok (s : St) (hn : s.st.length ≤ 1000000000) (hm : s.zs.length ≤ 1000000000) : CSpec Tryz.prog 22 [] [.agg (StC s)] [] (.b (decide (RS s))) := by
 refine CSpec.body Tryz.func22 rfl rfl rfl rfl rfl fun Q hQ => ?_
 refine T.seq fun K1 hK1 => ?_
 refine T.region ?_
 refine rs rfl rfl (ok_box (n := 15) rfl rfl (by decide)) ?_
 refine rs rfl rfl (ok_moveb (c := false) (.inr rfl) rfl) ?_
 refine ro_nil ?_
 refine keepK hK1 [1] (by dsimp) (by dsimp) ?_
 refine T.seq fun K2 hK2 => ?_
 refine T.seq fun K3 hK3 => ?_
 refine T.region ?_
 refine rs rfl rfl (ok_fieldAddr rfl ti_api_State rfl rfl ti_api_Conf (by decide) rfl) ?_
 refine rs rfl rfl (ok_load rfl ti_api_Conf rfl rfl) ?_
 refine ro rfl rfl (ok_call rfl rfl rfl ((rcheck_ok s.c).plain (by show renL _ [.agg (CC s.c)] = _; simp [renL, AV.ren, CC_ren]) rfl)) ?_
 refine rs rfl rfl (ok_binOp rfl ti_int rfl) ?_
 refine ro_case rfl rfl (OpOk.step (ok_moveb (.inl rfl) rfl)) (fun hb => ?_) (fun hb => ?_)
 ·(try simp only [dE] at hb)
  refine ro_skip rfl rfl ?_
  refine ro_skip rfl rfl ?_
  refine ro_skip rfl rfl ?_
  refine rs rfl rfl (ok_pickb (t := true) (d := true) rfl rfl rfl) ?_
  refine rs rfl rfl (ok_moveb (c := true) (.inl rfl) rfl) ?_
  refine ro_skip rfl rfl ?_
  refine ro_skip rfl rfl ?_
  refine ro_skip rfl rfl ?_
  refine rs rfl rfl (ok_pickb (t := true) (d := true) rfl rfl rfl) ?_
  refine rs rfl rfl (ok_moveb (c := true) (.inl rfl) rfl) ?_
  refine ro_skip rfl rfl ?_
  refine ro_skip rfl rfl ?_
  refine ro_skip rfl rfl ?_
  refine rs rfl rfl (ok_pickb (t := true) (d := true) rfl rfl rfl) ?_
  refine rs rfl rfl (ok_moveb (c := true) (.inl rfl) rfl) ?_
  refine ro_skip rfl rfl ?_
  refine ro_skip rfl rfl ?_
  refine ro_skip rfl rfl ?_
  refine rs rfl rfl (ok_pickb (t := true) (d := true) rfl rfl rfl) ?_
  refine rs rfl rfl (ok_moveb (c := true) (.inl rfl) rfl) ?_
  refine ro_skip rfl rfl ?_
  refine ro_skip rfl rfl ?_
  refine ro_skip rfl rfl ?_
  refine ro_skip rfl rfl ?_
  refine ro_skip rfl rfl ?_
  refine ro_skip rfl rfl ?_
  refine ro_skip rfl rfl ?_
  refine rs rfl rfl (ok_pickb (t := true) (d := true) rfl rfl rfl) ?_
  refine rs rfl rfl (ok_moveb (c := true) (.inl rfl) rfl) ?_
  refine ro_skip rfl rfl ?_
  refine ro_skip rfl rfl ?_
  refine ro_skip rfl rfl ?_
  refine ro_skip rfl rfl ?_
  refine ro_skip rfl rfl ?_
  refine ro_skip rfl rfl ?_
  refine ro_skip rfl rfl ?_
  refine rs rfl rfl (ok_pickb (t := true) (d := true) rfl rfl rfl) ?_
  refine ro_nil ?_
  refine keepK hK3 [1, 48] (by dsimp) (by dsimp) ?_
  refine T.cond_true rfl ?_
  refine T.seq fun K4 hK4 => ?_
  refine T.region ?_
  refine rs rfl rfl (ok_moveb (c := false) (.inr rfl) rfl) ?_
  refine ro_nil ?_
  refine keepK hK4 [2] (by dsimp) (by dsimp) ?_
  refine T.ret (hQ _ _ _ rfl ?_).1 -- ret 1
  exact by (rw [decide_eq_false (fun h => by obtain ⟨h1, h2, h3, h4, h5, h⟩ := h; omega)]; exact TEnt.fin [] (by decide) (by simp) rfl ⟨rfl, trivial⟩)
 ·(try simp only [dE] at hb)
  refine rs rfl rfl (ok_fieldAddr rfl ti_api_State rfl rfl ti_int (by decide) rfl) ?_
  refine rs rfl rfl (ok_load rfl ti_int rfl rfl) ?_
  refine rs rfl rfl (ok_binOp rfl ti_int rfl) ?_
  refine rs rfl rfl (ok_pick rfl rfl) ?_
  refine ro_case rfl rfl (OpOk.step (ok_moveb (.inl rfl) rfl)) (fun hb => ?_) (fun hb => ?_)
  ·(try simp only [dE] at hb)
   refine ro_skip rfl rfl ?_
   refine ro_skip rfl rfl ?_
   refine ro_skip rfl rfl ?_
   refine rs rfl rfl (ok_pickb (t := true) (d := true) rfl rfl rfl) ?_
   refine rs rfl rfl (ok_moveb (c := true) (.inl rfl) rfl) ?_
   refine ro_skip rfl rfl ?_
   refine ro_skip rfl rfl ?_
   refine ro_skip rfl rfl ?_
   refine rs rfl rfl (ok_pickb (t := true) (d := true) rfl rfl rfl) ?_
   refine rs rfl rfl (ok_moveb (c := true) (.inl rfl) rfl) ?_
   refine ro_skip rfl rfl ?_
   refine ro_skip rfl rfl ?_
   refine ro_skip rfl rfl ?_
   refine rs rfl rfl (ok_pickb (t := true) (d := true) rfl rfl rfl) ?_
   refine rs rfl rfl (ok_moveb (c := true) (.inl rfl) rfl) ?_
   refine ro_skip rfl rfl ?_
   refine ro_skip rfl rfl ?_
   refine ro_skip rfl rfl ?_
   refine ro_skip rfl rfl ?_
   refine ro_skip rfl rfl ?_
   refine ro_skip rfl rfl ?_
   refine ro_skip rfl rfl ?_
   refine rs rfl rfl (ok_pickb (t := true) (d := true) rfl rfl rfl) ?_
   refine rs rfl rfl (ok_moveb (c := true) (.inl rfl) rfl) ?_
   refine ro_skip rfl rfl ?_
   refine ro_skip rfl rfl ?_
   refine ro_skip rfl rfl ?_
   refine ro_skip rfl rfl ?_
   refine ro_skip rfl rfl ?_
   refine ro_skip rfl rfl ?_
   refine ro_skip rfl rfl ?_
   refine rs rfl rfl (ok_pickb (t := true) (d := true) rfl rfl rfl) ?_
   refine ro_nil ?_
   refine keepK hK3 [1, 48] (by dsimp) (by dsimp) ?_
   refine T.cond_true rfl ?_
   refine T.seq fun K5 hK5 => ?_
   refine T.region ?_
   refine rs rfl rfl (ok_moveb (c := false) (.inr rfl) rfl) ?_
   refine ro_nil ?_
   refine keepK hK5 [2] (by dsimp) (by dsimp) ?_
   refine T.ret (hQ _ _ _ rfl ?_).1 -- ret 2
   exact by (rw [decide_eq_false (fun h => by obtain ⟨h1, h2, h3, h4, h5, h⟩ := h; omega)]; exact TEnt.fin [] (by decide) (by simp) rfl ⟨rfl, trivial⟩)
  ·(try simp only [dE] at hb)
   refine rs rfl rfl (ok_fieldAddr rfl ti_api_State rfl rfl ti_int (by decide) rfl) ?_
   refine rs rfl rfl (ok_load rfl ti_int rfl rfl) ?_
   refine rs rfl rfl (ok_binOp rfl ti_int rfl) ?_
   refine rs rfl rfl (ok_pick rfl rfl) ?_
   refine ro_case rfl rfl (OpOk.step (ok_moveb (.inl rfl) rfl)) (fun hb => ?_) (fun hb => ?_)
   ·(try simp only [dE] at hb)
    refine ro_skip rfl rfl ?_
    refine ro_skip rfl rfl ?_
    refine ro_skip rfl rfl ?_
    refine rs rfl rfl (ok_pickb (t := true) (d := true) rfl rfl rfl) ?_
    refine rs rfl rfl (ok_moveb (c := true) (.inl rfl) rfl) ?_
    refine ro_skip rfl rfl ?_
    refine ro_skip rfl rfl ?_
    refine ro_skip rfl rfl ?_
    refine rs rfl rfl (ok_pickb (t := true) (d := true) rfl rfl rfl) ?_
    refine rs rfl rfl (ok_moveb (c := true) (.inl rfl) rfl) ?_
    refine ro_skip rfl rfl ?_
    refine ro_skip rfl rfl ?_
    refine ro_skip rfl rfl ?_
    refine ro_skip rfl rfl ?_
    refine ro_skip rfl rfl ?_
    refine ro_skip rfl rfl ?_
    refine ro_skip rfl rfl ?_
    refine rs rfl rfl (ok_pickb (t := true) (d := true) rfl rfl rfl) ?_
    refine rs rfl rfl (ok_moveb (c := true) (.inl rfl) rfl) ?_
    refine ro_skip rfl rfl ?_
    refine ro_skip rfl rfl ?_
    refine ro_skip rfl rfl ?_
    refine ro_skip rfl rfl ?_
    refine ro_skip rfl rfl ?_
    refine ro_skip rfl rfl ?_
    refine ro_skip rfl rfl ?_
    refine rs rfl rfl (ok_pickb (t := true) (d := true) rfl rfl rfl) ?_
    refine ro_nil ?_
    refine keepK hK3 [1, 48] (by dsimp) (by dsimp) ?_
    refine T.cond_true rfl ?_
    refine T.seq fun K6 hK6 => ?_
    refine T.region ?_
    refine rs rfl rfl (ok_moveb (c := false) (.inr rfl) rfl) ?_
    refine ro_nil ?_
    refine keepK hK6 [2] (by dsimp) (by dsimp) ?_
    refine T.ret (hQ _ _ _ rfl ?_).1 -- ret 3
    exact by (rw [decide_eq_false (fun h => by obtain ⟨h1, h2, h3, h4, h5, h⟩ := h; omega)]; exact TEnt.fin [] (by decide) (by simp) rfl ⟨rfl, trivial⟩)
   ·(try simp only [dE] at hb)
    refine rs rfl rfl (ok_fieldAddr rfl ti_api_State rfl rfl ti_int (by decide) rfl) ?_
    refine rs rfl rfl (ok_load rfl ti_int rfl rfl) ?_
    refine rs rfl rfl (ok_binOp rfl ti_int rfl) ?_
    refine rs rfl rfl (ok_pick rfl rfl) ?_
    refine ro_case rfl rfl (OpOk.step (ok_moveb (.inl rfl) rfl)) (fun hb => ?_) (fun hb => ?_)
    ·(try simp only [dE] at hb)
     refine ro_skip rfl rfl ?_
     refine ro_skip rfl rfl ?_
     refine ro_skip rfl rfl ?_
     refine rs rfl rfl (ok_pickb (t := true) (d := true) rfl rfl rfl) ?_
     refine rs rfl rfl (ok_moveb (c := true) (.inl rfl) rfl) ?_
     refine ro_skip rfl rfl ?_
     refine ro_skip rfl rfl ?_
     refine ro_skip rfl rfl ?_
     refine ro_skip rfl rfl ?_
     refine ro_skip rfl rfl ?_
     refine ro_skip rfl rfl ?_
     refine ro_skip rfl rfl ?_
     refine rs rfl rfl (ok_pickb (t := true) (d := true) rfl rfl rfl) ?_
     refine rs rfl rfl (ok_moveb (c := true) (.inl rfl) rfl) ?_
     refine ro_skip rfl rfl ?_
     refine ro_skip rfl rfl ?_
     refine ro_skip rfl rfl ?_
     refine ro_skip rfl rfl ?_
     refine ro_skip rfl rfl ?_
     refine ro_skip rfl rfl ?_
     refine ro_skip rfl rfl ?_
     refine rs rfl rfl (ok_pickb (t := true) (d := true) rfl rfl rfl) ?_
     refine ro_nil ?_
     refine keepK hK3 [1, 48] (by dsimp) (by dsimp) ?_
     refine T.cond_true rfl ?_
     refine T.seq fun K7 hK7 => ?_
     refine T.region ?_
     refine rs rfl rfl (ok_moveb (c := false) (.inr rfl) rfl) ?_
     refine ro_nil ?_
     refine keepK hK7 [2] (by dsimp) (by dsimp) ?_
     refine T.ret (hQ _ _ _ rfl ?_).1 -- ret 4
     exact by (rw [decide_eq_false (fun h => by obtain ⟨h1, h2, h3, h4, h5, h⟩ := h; omega)]; exact TEnt.fin [] (by decide) (by simp) rfl ⟨rfl, trivial⟩)
    ·(try simp only [dE] at hb)
     refine rs rfl rfl (ok_fieldAddr rfl ti_api_State rfl rfl ti_int (by decide) rfl) ?_
     refine rs rfl rfl (ok_load rfl ti_int rfl rfl) ?_
     refine rs rfl rfl (ok_binOp rfl ti_int rfl) ?_
     refine rs rfl rfl (ok_pick rfl rfl) ?_
     refine ro_case rfl rfl (OpOk.step (ok_moveb (.inl rfl) rfl)) (fun hb => ?_) (fun hb => ?_)
     ·(try simp only [dE] at hb)
      refine ro_skip rfl rfl ?_
      refine ro_skip rfl rfl ?_
      refine ro_skip rfl rfl ?_
      refine ro_skip rfl rfl ?_
      refine ro_skip rfl rfl ?_
      refine ro_skip rfl rfl ?_
      refine ro_skip rfl rfl ?_
      refine rs rfl rfl (ok_pickb (t := true) (d := true) rfl rfl rfl) ?_
      refine rs rfl rfl (ok_moveb (c := true) (.inl rfl) rfl) ?_
      refine ro_skip rfl rfl ?_
      refine ro_skip rfl rfl ?_
      refine ro_skip rfl rfl ?_
      refine ro_skip rfl rfl ?_
      refine ro_skip rfl rfl ?_
      refine ro_skip rfl rfl ?_
      refine ro_skip rfl rfl ?_
      refine rs rfl rfl (ok_pickb (t := true) (d := true) rfl rfl rfl) ?_
      refine ro_nil ?_
      refine keepK hK3 [1, 48] (by dsimp) (by dsimp) ?_
      refine T.cond_true rfl ?_
      refine T.seq fun K8 hK8 => ?_
      refine T.region ?_
      refine rs rfl rfl (ok_moveb (c := false) (.inr rfl) rfl) ?_
      refine ro_nil ?_
      refine keepK hK8 [2] (by dsimp) (by dsimp) ?_
      refine T.ret (hQ _ _ _ rfl ?_).1 -- ret 5
      exact by (rw [decide_eq_false (fun h => by obtain ⟨h1, h2, h3, h4, h5, h⟩ := h; omega)]; exact TEnt.fin [] (by decide) (by simp) rfl ⟨rfl, trivial⟩)
     ·(try simp only [dE] at hb)
      refine rs rfl rfl (ok_fieldAddr rfl ti_api_State rfl rfl ti_Lint (by decide) rfl) ?_
      refine rs rfl rfl (ok_load rfl ti_Lint rfl rfl) ?_
      refine rs rfl rfl (ok_len' rfl rfl ti_Lint rfl (by first | exact ints_length _ _ | exact rowsA_length _ _ | exact Cms_len _ | exact mapLen _ | rfl)) ?_
      refine rs rfl rfl (ok_fieldAddr rfl ti_api_State rfl rfl ti_api_Conf (by decide) rfl) ?_
      refine rs rfl rfl (ok_fieldAddr rfl ti_api_Conf rfl rfl ti_int (by decide) rfl) ?_
      refine rs rfl rfl (ok_load rfl ti_int rfl rfl) ?_
      refine rs rfl rfl (ok_binOp rfl ti_int rfl) ?_
      refine rs rfl rfl (ok_pick rfl rfl) ?_
      refine ro_case rfl rfl (OpOk.step (ok_moveb (.inl rfl) rfl)) (fun hb => ?_) (fun hb => ?_)
      ·(try simp only [dE] at hb)
       refine ro_skip rfl rfl ?_
       refine ro_skip rfl rfl ?_
       refine ro_skip rfl rfl ?_
       refine ro_skip rfl rfl ?_
       refine ro_skip rfl rfl ?_
       refine ro_skip rfl rfl ?_
       refine ro_skip rfl rfl ?_
       refine rs rfl rfl (ok_pickb (t := true) (d := true) rfl rfl rfl) ?_
       refine ro_nil ?_
       refine keepK hK3 [1, 48] (by dsimp) (by dsimp) ?_
       refine T.cond_true rfl ?_
       refine T.seq fun K9 hK9 => ?_
       refine T.region ?_
       refine rs rfl rfl (ok_moveb (c := false) (.inr rfl) rfl) ?_
       refine ro_nil ?_
       refine keepK hK9 [2] (by dsimp) (by dsimp) ?_
       refine T.ret (hQ _ _ _ rfl ?_).1 -- ret 6
       exact by (rw [decide_eq_false (fun h => by obtain ⟨h1, h2, h3, h4, h5, h⟩ := h; omega)]; exact TEnt.fin [] (by decide) (by simp) rfl ⟨rfl, trivial⟩)
      ·(try simp only [dE] at hb)
       refine rs rfl rfl (ok_fieldAddr rfl ti_api_State rfl rfl ti_Lapi_Zone (by decide) rfl) ?_
       refine rs rfl rfl (ok_load rfl ti_Lapi_Zone rfl rfl) ?_
       refine rs rfl rfl (ok_len' rfl rfl ti_Lapi_Zone rfl (by first | exact ints_length _ _ | exact rowsA_length _ _ | exact Cms_len _ | exact mapLen _ | rfl)) ?_
       refine rs rfl rfl (ok_fieldAddr rfl ti_api_State rfl rfl ti_api_Conf (by decide) rfl) ?_
       refine rs rfl rfl (ok_fieldAddr rfl ti_api_Conf rfl rfl ti_int (by decide) rfl) ?_
       refine rs rfl rfl (ok_load rfl ti_int rfl rfl) ?_
       refine rs rfl rfl (ok_binOp rfl ti_int rfl) ?_
       refine rs rfl rfl (ok_pick rfl rfl) ?_
       refine ro_nil ?_
       refine keepK hK3 [1, 48] (by dsimp) (by dsimp) ?_
       refine T.cond rfl (fun hc => ?_) (fun hc => ?_) -- cond 1
       ·(try simp only [dE] at hc)
        try rw [Zns_len] at hc
        refine T.seq fun K10 hK10 => ?_
        refine T.region ?_
        refine rs rfl rfl (ok_moveb (c := false) (.inr rfl) rfl) ?_
        refine ro_nil ?_
        refine keepK hK10 [2] (by dsimp) (by dsimp) ?_
        refine T.ret (hQ _ _ _ rfl ?_).1 -- ret 7
        exact by (rw [decide_eq_false (fun h => by obtain ⟨h1, h2, h3, h4, h5, h⟩ := h; omega)]; exact TEnt.fin [] (by decide) (by simp) rfl ⟨rfl, trivial⟩)
       ·(try simp only [dE] at hc)
        try rw [Zns_len] at hc
        have hhead : chkC s.c = 0 ∧ (1 ≤ s.ep ∧ s.ep ≤ 1099511627776) ∧ (0 ≤ s.sq ∧ s.sq ≤ 1099511627776) ∧ (s.st.length : Int) = s.c.mem ∧ (s.zs.length : Int) = s.c.zon := by omega
        have hck := hhead.1
        refine T.skip ?_
        refine keepK hK2 [1] (by dsimp) (by dsimp) ?_
        refine T.seq fun K11 hK11 => ?_
        refine T.region ?_
        refine rs rfl rfl (ok_move (.inr rfl)) ?_
        refine ro_nil ?_
        refine keepK hK11 [1, 3] (by dsimp) (by dsimp) ?_
        refine T.seq fun K12 hK12 => ?_
        refine T.seq fun K13 hK13 => ?_
        refine T.region ?_
        refine rs rfl rfl (ok_move (.inr rfl)) ?_
        refine ro_nil ?_
        refine keepK hK13 [1, 3, 4] (by dsimp) (by dsimp) ?_
        refine T.block ?_
        refine T.loopI (ι := Nat) (fun i => i ≤ s.st.length ∧ ∀ n ∈ s.st.take i, 0 ≤ n ∧ n ≤ 2) (fun i => s.st.length - i) (fun i => ([(1, .ref 0 0 0), (3, .int ((s.st.take i).countP oddP)), (4, .int i)], [some (StB s)])) 0 ⟨Nat.zero_le _, fun y hy => by simp at hy⟩ (TEnt.toH rfl ⟨rfl, rfl, rfl, trivial⟩) (fun i hi => ?_) -- loop 1
        obtain ⟨hil, hall⟩ := hi
        refine T.seq fun K14 hK14 => ?_
        refine T.seq fun K15 hK15 => ?_
        refine T.region ?_
        refine rs rfl rfl (ok_move (.inl rfl)) ?_
        refine rs rfl rfl (ok_fieldAddr rfl ti_api_State rfl rfl ti_Lint (by decide) rfl) ?_
        refine rs rfl rfl (ok_load rfl ti_Lint rfl rfl) ?_
        refine rs rfl rfl (ok_len' rfl rfl ti_Lint rfl (by first | exact ints_length _ _ | exact rowsA_length _ _ | exact Cms_len _ | exact mapLen _ | rfl)) ?_
        refine rs rfl rfl (ok_binOp rfl ti_int rfl) ?_
        refine ro_nil ?_
        refine keepK hK15 [1, 3, 4, 53] (by dsimp) (by dsimp) ?_
        refine T.cond rfl (fun hc => ?_) (fun hc => ?_) -- cond 2
        ·(try simp only [dE] at hc)
         obtain ⟨n, hin⟩ : ∃ n, s.st[i]? = some n := ⟨_, List.getElem?_eq_getElem (by omega)⟩
         have hcl := countP_take_le (l := s.st) i
         refine T.skip ?_
         refine keepK hK14 [1, 3, 4] (by dsimp) (by dsimp) ?_
         refine T.seq fun K16 hK16 => ?_
         refine T.block ?_
         refine T.seq fun K17 hK17 => ?_
         refine T.seq fun K18 hK18 => ?_
         refine T.region ?_
         refine rs rfl rfl (ok_fieldAddr rfl ti_api_State rfl rfl ti_Lint (by decide) rfl) ?_
         refine rs rfl rfl (ok_load rfl ti_Lint rfl rfl) ?_
         refine rs rfl rfl (ok_move (.inl rfl)) ?_
         refine rs rfl rfl (by exact ok_index_ints rfl ti_Lint rfl ti_int rfl rfl rfl (by omega) (by simpa using hin)) ?_
         refine rs rfl rfl (ok_load rfl ti_int rfl rfl) ?_
         refine rs rfl rfl (ok_binOp rfl ti_int rfl) ?_
         refine ro_case rfl rfl (OpOk.step (ok_moveb (.inl rfl) rfl)) (fun hb => ?_) (fun hb => ?_)
         ·(try simp only [dE] at hb)
          refine ro_skip rfl rfl ?_
          refine ro_skip rfl rfl ?_
          refine ro_skip rfl rfl ?_
          refine ro_skip rfl rfl ?_
          refine ro_skip rfl rfl ?_
          refine ro_skip rfl rfl ?_
          refine rs rfl rfl (ok_pickb (t := true) (d := true) rfl rfl rfl) ?_
          refine ro_nil ?_
          refine keepK hK18 [1, 3, 4, 69] (by dsimp) (by dsimp) ?_
          refine T.cond_true rfl ?_
          refine T.seq fun K19 hK19 => ?_
          refine T.region ?_
          refine rs rfl rfl (ok_moveb (c := false) (.inr rfl) rfl) ?_
          refine ro_nil ?_
          refine keepK hK19 [2] (by dsimp) (by dsimp) ?_
          refine T.ret (hQ _ _ _ rfl ?_).1 -- ret 8
          exact by (rw [decide_eq_false (RS_st (by assumption) (by omega))]; exact TEnt.fin [] (by decide) (by simp) rfl ⟨rfl, trivial⟩)
         ·(try simp only [dE] at hb)
          refine rs rfl rfl (ok_fieldAddr rfl ti_api_State rfl rfl ti_Lint (by decide) rfl) ?_
          refine rs rfl rfl (ok_load rfl ti_Lint rfl rfl) ?_
          refine rs rfl rfl (ok_move (.inl rfl)) ?_
          refine rs rfl rfl (by exact ok_index_ints rfl ti_Lint rfl ti_int rfl rfl rfl (by omega) (by simpa using hin)) ?_
          refine rs rfl rfl (ok_load rfl ti_int rfl rfl) ?_
          refine rs rfl rfl (ok_binOp rfl ti_int rfl) ?_
          refine rs rfl rfl (ok_pick rfl rfl) ?_
          refine ro_nil ?_
          refine keepK hK18 [1, 3, 4, 69] (by dsimp) (by dsimp) ?_
          refine T.cond rfl (fun hc => ?_) (fun hc => ?_) -- cond 3
          ·(try simp only [dE] at hc)
           refine T.seq fun K20 hK20 => ?_
           refine T.region ?_
           refine rs rfl rfl (ok_moveb (c := false) (.inr rfl) rfl) ?_
           refine ro_nil ?_
           refine keepK hK20 [2] (by dsimp) (by dsimp) ?_
           refine T.ret (hQ _ _ _ rfl ?_).1 -- ret 9
           exact by (rw [decide_eq_false (RS_st (by assumption) (by omega))]; exact TEnt.fin [] (by decide) (by simp) rfl ⟨rfl, trivial⟩)
          ·(try simp only [dE] at hc)
           refine T.skip ?_
           refine keepK hK17 [1, 3, 4] (by dsimp) (by dsimp) ?_
           refine T.seq fun K21 hK21 => ?_
           refine T.region ?_
           refine rs rfl rfl (ok_fieldAddr rfl ti_api_State rfl rfl ti_Lint (by decide) rfl) ?_
           refine rs rfl rfl (ok_load rfl ti_Lint rfl rfl) ?_
           refine rs rfl rfl (ok_move (.inl rfl)) ?_
           refine rs rfl rfl (by exact ok_index_ints rfl ti_Lint rfl ti_int rfl rfl rfl (by omega) (by simpa using hin)) ?_
           refine rs rfl rfl (ok_load rfl ti_int rfl rfl) ?_
           refine rs rfl rfl (ok_binOp rfl ti_int rfl) ?_
           refine ro_nil ?_
           refine keepK hK21 [1, 3, 4, 75] (by dsimp) (by dsimp) ?_
           refine T.cond rfl (fun hc => ?_) (fun hc => ?_) -- cond 4
           ·(try simp only [dE] at hc)
            have hcs := countP_snoc hin
            rw [show oddP n = true by simp [oddP]; omega, if_pos rfl] at hcs
            refine T.region ?_
            refine rs rfl rfl (ok_move (.inl rfl)) ?_
            refine rs rfl rfl (ok_add64 rfl ti_int rfl rfl (by omega) (by omega)) ?_
            refine rs rfl rfl (ok_move (.inr rfl)) ?_
            refine ro_nil ?_
            refine keepK hK16 [1, 3, 4] (by dsimp) (by dsimp) ?_
            refine T.region ?_
            refine rs rfl rfl (ok_move (.inl rfl)) ?_
            refine rs rfl rfl (ok_add64 rfl ti_int rfl rfl (by omega) (by omega)) ?_
            refine rs rfl rfl (ok_move (.inr rfl)) ?_
            refine ro_nil ?_
            exact ⟨i + 1, ⟨by omega, all_snoc hin hall (by omega)⟩, by omega, TEnt.toH rfl ⟨rfl, by simp [hcs], rfl, trivial⟩⟩
           ·(try simp only [dE] at hc)
            have hcs := countP_snoc hin
            rw [show oddP n = false by simp [oddP]; omega, if_neg (by decide)] at hcs
            refine T.skip ?_
            refine keepK hK16 [1, 3, 4] (by dsimp) (by dsimp) ?_
            refine T.region ?_
            refine rs rfl rfl (ok_move (.inl rfl)) ?_
            refine rs rfl rfl (ok_add64 rfl ti_int rfl rfl (by omega) (by omega)) ?_
            refine rs rfl rfl (ok_move (.inr rfl)) ?_
            refine ro_nil ?_
            exact ⟨i + 1, ⟨by omega, all_snoc hin hall (by omega)⟩, by omega, TEnt.toH rfl ⟨rfl, by simp [hcs], rfl, trivial⟩⟩
        ·(try simp only [dE] at hc)
         have hin : i = s.st.length := by omega
         subst hin
         rw [List.take_length] at hall
         rw [List.take_length]
         refine T.exit ?_
         refine keepK hK12 [1, 3] (by dsimp) (by dsimp) ?_
         refine T.seq fun K22 hK22 => ?_
         refine T.seq fun K23 hK23 => ?_
         refine T.region ?_
         refine rs rfl rfl (ok_move (.inr rfl)) ?_
         refine ro_nil ?_
         refine keepK hK23 [1, 3, 5] (by dsimp) (by dsimp) ?_
         refine T.block ?_
         refine T.loopI (ι := Nat) (fun i => i ≤ s.zs.length ∧ (∀ z ∈ s.zs.take i, RZ s.c (decide (2 ∈ s.st)) z) ∧ DS (s.zs.take i)) (fun i => s.zs.length - i) (fun i => ([(1, .ref 0 0 0), (3, .int (s.st.countP oddP)), (5, .int i)], [some (StB s)])) 0 ⟨Nat.zero_le _, fun y hy => by simp at hy, by simp [DS]⟩ (TEnt.toH rfl ⟨rfl, rfl, rfl, trivial⟩) (fun i hi => ?_) -- loop 2
         obtain ⟨hjl, hzs, hds⟩ := hi
         refine T.seq fun K24 hK24 => ?_
         refine T.seq fun K25 hK25 => ?_
         refine T.region ?_
         refine rs rfl rfl (ok_move (.inl rfl)) ?_
         refine rs rfl rfl (ok_fieldAddr rfl ti_api_State rfl rfl ti_Lapi_Zone (by decide) rfl) ?_
         refine rs rfl rfl (ok_load rfl ti_Lapi_Zone rfl rfl) ?_
         refine rs rfl rfl (ok_len' rfl rfl ti_Lapi_Zone rfl (by first | exact ints_length _ _ | exact rowsA_length _ _ | exact Cms_len _ | exact mapLen _ | rfl)) ?_
         refine rs rfl rfl (ok_binOp rfl ti_int rfl) ?_
         refine ro_nil ?_
         refine keepK hK25 [1, 3, 5, 82] (by dsimp) (by dsimp) ?_
         refine T.cond rfl (fun hc => ?_) (fun hc => ?_) -- cond 5
         ·(try simp only [dE] at hc)
          rw [Zns_len] at hc
          obtain ⟨z, hz⟩ : ∃ z, s.zs[i]? = some z := ⟨_, List.getElem?_eq_getElem (by omega)⟩
          obtain ⟨w, hw⟩ : ∃ w, w = i := ⟨_, rfl⟩
          subst hw
          refine T.skip ?_
          refine keepK hK24 [1, 3, 5] (by dsimp) (by dsimp) ?_
          refine T.seq fun K26 hK26 => ?_
          refine T.block ?_
          refine T.seq fun K27 hK27 => ?_
          refine T.seq fun K28 hK28 => ?_
          refine T.drawH mixed [] ?_
          refine any_take 0 rfl (by first | rfl | decide +kernel) rfl (HeldL.refl _) (fun H' hH => OpOk.step (ok_load rfl ti_api_State (locA_held hH rfl) rfl)) ?_
          refine any_take 1 rfl (by first | rfl | decide +kernel) rfl (HeldL.refl _) (fun H' hH => OpOk.step (ok_fieldAddr rfl ti_api_State rfl rfl ti_Lapi_Zone (by decide) rfl)) ?_
          refine any_take 2 rfl (by first | rfl | decide +kernel) rfl (HeldL.refl _) (fun H' hH => OpOk.step (ok_load rfl ti_Lapi_Zone (locA_held hH rfl) rfl)) ?_
          refine any_take 3 rfl (by first | rfl | decide +kernel) rfl (HeldL.refl _) (fun H' hH => OpOk.step (ok_move (.inl rfl))) ?_
          refine any_take 4 rfl (by first | rfl | decide +kernel) rfl (HeldL.refl _) (fun H' hH => OpOk.step (by exact ok_index_map (F := ZnC) rfl ti_Lapi_Zone rfl ti_api_Zone rfl rfl rfl hz (by simp [ZnC]))) ?_
          refine any_take 5 rfl (by first | rfl | decide +kernel) rfl (HeldL.refl _) (fun H' hH => OpOk.step (ok_load rfl ti_api_Zone (locA_held hH rfl) rfl)) ?_
          refine any_one 6 rfl (by first | rfl | decide +kernel) rfl rfl (ok_call rfl rfl rfl ((rrzone_ok s z hck hn).plain (by simp [renL, AV.ren, StC_take, StC_ren, ZnC_take, ZnC_ren]) rfl)) (.inr (by first | (simp [HeldL]; done) | (simp only [dH]; (repeat' first | trivial | rfl | constructor)))) ?_
          refine any_take 7 rfl (by first | rfl | decide +kernel) rfl (by first | exact HeldL.refl _ | exact HeldL.append _ _ | simp [HeldL]) (fun H' hH => OpOk.step (ok_unOp rfl rfl)) ?_
          refine any_done rfl ?_
          refine keepK hK28 [1, 3, 5, 92] (by dsimp) (by dsimp) ?_
          refine T.cond rfl (fun hc => ?_) (fun hc => ?_) -- cond 6
          ·(try simp only [dE] at hc)
           refine T.seq fun K29 hK29 => ?_
           refine T.region ?_
           refine rs rfl rfl (ok_moveb (c := false) (.inr rfl) rfl) ?_
           refine ro_nil ?_
           refine keepK hK29 [2] (by dsimp) (by dsimp) ?_
           refine T.ret (hQ _ _ _ rfl ?_).1 -- ret 10
           exact by (rw [decide_eq_false (RS_zn hz (by assumption))]; exact TEnt.fin [] (by decide) (by simp) rfl ⟨rfl, trivial⟩)
          ·(try simp only [dE] at hc)
           have hrz : RZ s.c (decide (2 ∈ s.st)) z := hc
           refine T.skip ?_
           refine keepK hK27 [1, 3, 5] (by dsimp) (by dsimp) ?_
           refine T.seq fun K30 hK30 => ?_
           refine T.region ?_
           refine rs rfl rfl (ok_move (.inr rfl)) ?_
           refine ro_nil ?_
           refine keepK hK30 [1, 3, 5, 6] (by dsimp) (by dsimp) ?_
           refine T.block ?_
           refine T.loopI (ι := Nat) (fun k => k ≤ w ∧ ∀ a ∈ s.zs.take k, a.slot = z.slot → z.slot = -1) (fun k => w - k) (fun k => ([(1, .ref 0 0 0), (3, .int (s.st.countP oddP)), (5, .int w), (6, .int k)], [some (StB s)])) 0 ⟨Nat.zero_le _, fun y hy => by simp at hy⟩ (TEnt.toH rfl ⟨rfl, rfl, rfl, rfl, trivial⟩) (fun i hi => ?_) -- loop 3
           obtain ⟨hkl, hno⟩ := hi
           refine T.seq fun K31 hK31 => ?_
           refine T.seq fun K32 hK32 => ?_
           refine T.region ?_
           refine rs rfl rfl (ok_move (.inl rfl)) ?_
           refine rs rfl rfl (ok_move (.inl rfl)) ?_
           refine rs rfl rfl (ok_binOp rfl ti_int rfl) ?_
           refine ro_nil ?_
           refine keepK hK32 [1, 3, 5, 6, 95] (by dsimp) (by dsimp) ?_
           refine T.cond rfl (fun hc => ?_) (fun hc => ?_) -- cond 7
           ·(try simp only [dE] at hc)
            obtain ⟨a, ha⟩ : ∃ a, s.zs[i]? = some a := ⟨_, List.getElem?_eq_getElem (by omega)⟩
            refine T.skip ?_
            refine keepK hK31 [1, 3, 5, 6] (by dsimp) (by dsimp) ?_
            refine T.seq fun K33 hK33 => ?_
            refine T.block ?_
            refine T.seq fun K34 hK34 => ?_
            refine T.drawH mixed [] ?_
            refine any_take 0 rfl (by first | rfl | decide +kernel) rfl (HeldL.refl _) (fun H' hH => OpOk.step (ok_fieldAddr rfl ti_api_State rfl rfl ti_Lapi_Zone (by decide) rfl)) ?_
            refine any_take 1 rfl (by first | rfl | decide +kernel) rfl (HeldL.refl _) (fun H' hH => OpOk.step (ok_load rfl ti_Lapi_Zone (locA_held hH rfl) rfl)) ?_
            refine any_take 2 rfl (by first | rfl | decide +kernel) rfl (HeldL.refl _) (fun H' hH => OpOk.step (ok_move (.inl rfl))) ?_
            refine any_take 3 rfl (by first | rfl | decide +kernel) rfl (HeldL.refl _) (fun H' hH => OpOk.step (by exact ok_index_map (F := ZnC) rfl ti_Lapi_Zone rfl ti_api_Zone rfl rfl rfl ha (by simp [ZnC]))) ?_
            refine any_take 4 rfl (by first | rfl | decide +kernel) rfl (HeldL.refl _) (fun H' hH => OpOk.step (ok_fieldAddr rfl ti_api_Zone rfl rfl ti_int (by decide) rfl)) ?_
            refine any_take 5 rfl (by first | rfl | decide +kernel) rfl (HeldL.refl _) (fun H' hH => OpOk.step (ok_load rfl ti_int (locA_held hH rfl) rfl)) ?_
            refine any_take 6 rfl (by first | rfl | decide +kernel) rfl (HeldL.refl _) (fun H' hH => OpOk.step (ok_fieldAddr rfl ti_api_State rfl rfl ti_Lapi_Zone (by decide) rfl)) ?_
            refine any_take 7 rfl (by first | rfl | decide +kernel) rfl (HeldL.refl _) (fun H' hH => OpOk.step (ok_load rfl ti_Lapi_Zone (locA_held hH rfl) rfl)) ?_
            refine any_take 8 rfl (by first | rfl | decide +kernel) rfl (HeldL.refl _) (fun H' hH => OpOk.step (ok_move (.inl rfl))) ?_
            refine any_take 9 rfl (by first | rfl | decide +kernel) rfl (HeldL.refl _) (fun H' hH => OpOk.step (by exact ok_index_map (F := ZnC) rfl ti_Lapi_Zone rfl ti_api_Zone rfl rfl rfl hz (by simp [ZnC]))) ?_
            refine any_take 10 rfl (by first | rfl | decide +kernel) rfl (HeldL.refl _) (fun H' hH => OpOk.step (ok_fieldAddr rfl ti_api_Zone rfl rfl ti_int (by decide) rfl)) ?_
            refine any_take 11 rfl (by first | rfl | decide +kernel) rfl (HeldL.refl _) (fun H' hH => OpOk.step (ok_load rfl ti_int (locA_held hH rfl) rfl)) ?_
            refine any_take 12 rfl (by first | rfl | decide +kernel) rfl (HeldL.refl _) (fun H' hH => OpOk.step (ok_binOp rfl ti_int rfl)) ?_
            refine any_take_case 13 rfl (by first | rfl | decide +kernel) rfl (HeldL.refl _) (fun H' hH => OpOk.step (ok_moveb (.inl rfl) rfl)) (fun hb => ?_) (fun hb => ?_)
            ·(try simp only [dE] at hb)
             refine any_take 14 rfl (by first | rfl | decide +kernel) rfl (HeldL.refl _) (fun H' hH => OpOk.step (ok_fieldAddr rfl ti_api_State rfl rfl ti_Lapi_Zone (by decide) rfl)) ?_
             refine any_take 15 rfl (by first | rfl | decide +kernel) rfl (HeldL.refl _) (fun H' hH => OpOk.step (ok_load rfl ti_Lapi_Zone (locA_held hH rfl) rfl)) ?_
             refine any_take 16 rfl (by first | rfl | decide +kernel) rfl (HeldL.refl _) (fun H' hH => OpOk.step (ok_move (.inl rfl))) ?_
             refine any_take 17 rfl (by first | rfl | decide +kernel) rfl (HeldL.refl _) (fun H' hH => OpOk.step (by exact ok_index_map (F := ZnC) rfl ti_Lapi_Zone rfl ti_api_Zone rfl rfl rfl hz (by simp [ZnC]))) ?_
             refine any_take 18 rfl (by first | rfl | decide +kernel) rfl (HeldL.refl _) (fun H' hH => OpOk.step (ok_fieldAddr rfl ti_api_Zone rfl rfl ti_int (by decide) rfl)) ?_
             refine any_take 19 rfl (by first | rfl | decide +kernel) rfl (HeldL.refl _) (fun H' hH => OpOk.step (ok_load rfl ti_int (locA_held hH rfl) rfl)) ?_
             refine any_take 20 rfl (by first | rfl | decide +kernel) rfl (HeldL.refl _) (fun H' hH => OpOk.step (ok_binOp rfl ti_int rfl)) ?_
             refine any_take 21 rfl (by first | rfl | decide +kernel) rfl (HeldL.refl _) (fun H' hH => OpOk.step (ok_pick rfl rfl)) ?_
             refine any_done rfl ?_
             refine keepK hK34 [1, 3, 5, 6, 119] (by dsimp) (by dsimp) ?_
             refine T.cond rfl (fun hc => ?_) (fun hc => ?_) -- cond 8
             ·(try simp only [dE] at hc)
              refine T.seq fun K35 hK35 => ?_
              refine T.region ?_
              refine rs rfl rfl (ok_moveb (c := false) (.inr rfl) rfl) ?_
              refine ro_nil ?_
              refine keepK hK35 [2] (by dsimp) (by dsimp) ?_
              refine T.ret (hQ _ _ _ rfl ?_).1 -- ret 11
              exact by (rw [decide_eq_false (RS_ds (DS_pair ha hz (by omega) (by assumption) (by omega)))]; exact TEnt.fin [] (by decide) (by simp) rfl ⟨rfl, trivial⟩)
             ·(try simp only [dE] at hc)
              refine T.skip ?_
              refine keepK hK33 [1, 3, 5, 6] (by dsimp) (by dsimp) ?_
              refine T.region ?_
              refine rs rfl rfl (ok_move (.inl rfl)) ?_
              refine rs rfl rfl (ok_add64 rfl ti_int rfl rfl (by omega) (by omega)) ?_
              refine rs rfl rfl (ok_move (.inr rfl)) ?_
              refine ro_nil ?_
              exact ⟨i + 1, ⟨by omega, all_snoc ha hno (by have := hrz.2.1; omega)⟩, by omega, TEnt.toH rfl ⟨rfl, rfl, rfl, rfl, trivial⟩⟩
            ·(try simp only [dE] at hb)
             refine any_skip 14 rfl (by first | rfl | decide +kernel) rfl (HeldL.refl _) ?_
             refine any_skip 15 rfl (by first | rfl | decide +kernel) rfl (HeldL.refl _) ?_
             refine any_skip 16 rfl (by first | rfl | decide +kernel) rfl (HeldL.refl _) ?_
             refine any_skip 17 rfl (by first | rfl | decide +kernel) rfl (HeldL.refl _) ?_
             refine any_skip 18 rfl (by first | rfl | decide +kernel) rfl (HeldL.refl _) ?_
             refine any_skip 19 rfl (by first | rfl | decide +kernel) rfl (HeldL.refl _) ?_
             refine any_skip 20 rfl (by first | rfl | decide +kernel) rfl (HeldL.refl _) ?_
             refine any_take 21 rfl (by first | rfl | decide +kernel) rfl (HeldL.refl _) (fun H' hH => OpOk.step (ok_pickb (t := false) (d := false) rfl rfl rfl)) ?_
             refine any_done rfl ?_
             refine keepK hK34 [1, 3, 5, 6, 119] (by dsimp) (by dsimp) ?_
             refine T.cond_false rfl ?_
             refine T.skip ?_
             refine keepK hK33 [1, 3, 5, 6] (by dsimp) (by dsimp) ?_
             refine T.region ?_
             refine rs rfl rfl (ok_move (.inl rfl)) ?_
             refine rs rfl rfl (ok_add64 rfl ti_int rfl rfl (by omega) (by omega)) ?_
             refine rs rfl rfl (ok_move (.inr rfl)) ?_
             refine ro_nil ?_
             exact ⟨i + 1, ⟨by omega, all_snoc ha hno (by have := hrz.2.1; omega)⟩, by omega, TEnt.toH rfl ⟨rfl, rfl, rfl, rfl, trivial⟩⟩
           ·(try simp only [dE] at hc)
            have hiw : i = w := by omega
            subst hiw
            refine T.exit ?_
            refine keepK hK26 [1, 3, 5] (by dsimp) (by dsimp) ?_
            refine T.region ?_
            refine rs rfl rfl (ok_move (.inl rfl)) ?_
            refine rs rfl rfl (ok_add64 rfl ti_int rfl rfl (by omega) (by omega)) ?_
            refine rs rfl rfl (ok_move (.inr rfl)) ?_
            refine ro_nil ?_
            exact ⟨i + 1, ⟨by omega, all_snoc hz hzs hrz, DS_step hz hds hno⟩, by omega, TEnt.toH rfl ⟨rfl, rfl, rfl, trivial⟩⟩
         ·(try simp only [dE] at hc)
          rw [Zns_len] at hc
          have hin : i = s.zs.length := by omega
          rw [hin, List.take_length] at hzs hds
          refine T.exit ?_
          refine keepK hK22 [3] (by dsimp) (by dsimp) ?_
          refine T.seq fun K36 hK36 => ?_
          refine T.region ?_
          refine rs rfl rfl (ok_move (.inl rfl)) ?_
          refine rs rfl rfl (ok_binOp rfl ti_int rfl) ?_
          refine rs rfl rfl (ok_move (.inr rfl)) ?_
          refine ro_nil ?_
          refine keepK hK36 [2] (by dsimp) (by dsimp) ?_
          refine T.ret (hQ _ _ _ rfl ?_).1 -- ret 12
          exact by (rw [RS_last' hhead hall hzs hds]; exact TEnt.fin [] (by decide) (by simp) rfl ⟨rfl, trivial⟩)
end Go.Proofs.YtjklgbafnfoolaaGreat.AmF
namespace Go.Proofs.YtjklgbafnfoolaaGreat.AmF
open Go Go.AM
set_option maxRecDepth 100000
set_option linter.unusedSimpArgs false
set_option linter.unusedVariables false
attribute [local simp] tkeep tget tput ev cav argsTM pickA normT putA splice AV.cells ints_length rowsA_length
def R (l : List Int) (p : Nat) (e : Int) : Blk := ⟨3, true, [.agg [.fz 1 (ints .u8 l), .int p, .int e]]⟩
theorem take_dead (l : List Int) (p : Nat) (e : Int) (n : Int) (he : e ≠ 0) : CSpec Tryz.prog 93 [R l p e] [.ref 0 0 0, .int n] [some (R l p e)] (.fz 1 (ints .u8 [])) := by
 refine CSpec.body Tryz.func93 rfl rfl rfl rfl rfl fun Q hQ => ?_
 refine T.seq fun K1 hK1 => ?_
 refine T.region ?_
 refine rs rfl rfl (ok_move (.inr rfl)) ?_
 refine ro_nil ?_
 refine keepK hK1 [0, 1] (by dsimp) (by dsimp) ?_
 refine T.seq fun K2 hK2 => ?_
 refine T.seq fun K3 hK3 => ?_
 refine T.drawH mixed [] ?_
 refine any_take 0 rfl (by first | rfl | decide +kernel) rfl (HeldL.refl _) (fun H' hH => OpOk.step (ok_move (.inl rfl))) ?_
 refine any_take 1 rfl (by first | rfl | decide +kernel) rfl (HeldL.refl _) (fun H' hH => OpOk.step (ok_nilCheck rfl rfl)) ?_
 refine any_take 2 rfl (by first | rfl | decide +kernel) rfl (HeldL.refl _) (fun H' hH => OpOk.step (ok_fieldAddr rfl ti_pack_Reader rfl rfl ti_api_Errno (by decide) rfl)) ?_
 refine any_take 3 rfl (by first | rfl | decide +kernel) rfl (HeldL.refl _) (fun H' hH => OpOk.step (ok_load rfl ti_api_Errno (locA_held hH rfl) rfl)) ?_
 refine any_take 4 rfl (by first | rfl | decide +kernel) rfl (HeldL.refl _) (fun H' hH => OpOk.step (OpOk.bool (d := false) (ok_binOp rfl ti_api_Errno rfl) (by simp [he]))) ?_
 refine any_take 5 rfl (by first | rfl | decide +kernel) rfl (HeldL.refl _) (fun H' hH => OpOk.step (ok_moveb (c := false) (.inl rfl) rfl)) ?_
 refine any_skip 6 rfl (by first | rfl | decide +kernel) rfl (HeldL.refl _) ?_
 refine any_skip 7 rfl (by first | rfl | decide +kernel) rfl (HeldL.refl _) ?_
 refine any_skip 8 rfl (by first | rfl | decide +kernel) rfl (HeldL.refl _) ?_
 refine any_skip 9 rfl (by first | rfl | decide +kernel) rfl (HeldL.refl _) ?_
 refine any_skip 10 rfl (by first | rfl | decide +kernel) rfl (HeldL.refl _) ?_
 refine any_skip 11 rfl (by first | rfl | decide +kernel) rfl (HeldL.refl _) ?_
 refine any_skip 12 rfl (by first | rfl | decide +kernel) rfl (HeldL.refl _) ?_
 refine any_skip 13 rfl (by first | rfl | decide +kernel) rfl (HeldL.refl _) ?_
 refine any_skip 14 rfl (by first | rfl | decide +kernel) rfl (HeldL.refl _) ?_
 refine any_skip 15 rfl (by first | rfl | decide +kernel) rfl (HeldL.refl _) ?_
 refine any_skip 16 rfl (by first | rfl | decide +kernel) rfl (HeldL.refl _) ?_
 refine any_skip 17 rfl (by first | rfl | decide +kernel) rfl (HeldL.refl _) ?_
 refine any_take 18 rfl (by first | rfl | decide +kernel) rfl (HeldL.refl _) (fun H' hH => OpOk.step (ok_pickb (t := false) (d := false) rfl rfl rfl)) ?_
 refine any_done rfl ?_
 refine keepK hK3 [0, 1, 23] (by dsimp) (by dsimp) ?_
 refine T.cond_false rfl ?_
 refine T.skip ?_
 refine keepK hK2 [0, 1] (by dsimp) (by dsimp) ?_
 refine T.seq fun K4 hK4 => ?_
 refine T.seq fun K5 hK5 => ?_
 refine T.region ?_
 refine rs rfl rfl (ok_move (.inl rfl)) ?_
 refine rs rfl rfl (ok_nilCheck rfl rfl) ?_
 refine rs rfl rfl (ok_fieldAddr rfl ti_pack_Reader rfl rfl ti_api_Errno (by decide) rfl) ?_
 refine rs rfl rfl (ok_load rfl ti_api_Errno rfl rfl) ?_
 refine rs rfl rfl (OpOk.bool (d := true) (ok_binOp rfl ti_api_Errno rfl) (by simp [he])) ?_
 refine ro_nil ?_
 refine keepK hK5 [0, 1, 31] (by dsimp) (by dsimp) ?_
 refine T.cond_true rfl ?_
 refine T.seq fun K6 hK6 => ?_
 refine T.region ?_
 refine rs rfl rfl (ok_move (.inr rfl)) ?_
 refine ro_nil ?_
 refine keepK hK6 [4] (by dsimp) (by dsimp) ?_
 refine T.ret (hQ _ _ _ rfl ?_).1 -- ret 1
 exact ((TEnt.put1 0 (Ent.nil 1)).trans (TEnt.toH rfl ⟨rfl, trivial⟩))
theorem take_short (l : List Int) (p n : Nat) (hn : l.length < p + n) (hp : p ≤ l.length) (hl : l.length ≤ 140737488355328) : CSpec Tryz.prog 93 [R l p 0] [.ref 0 0 0, .int n] [some (R l p 14)] (.fz 1 (ints .u8 [])) := by
 refine CSpec.body Tryz.func93 rfl rfl rfl rfl rfl fun Q hQ => ?_
 refine T.seq fun K1 hK1 => ?_
 refine T.region ?_
 refine rs rfl rfl (ok_move (.inr rfl)) ?_
 refine ro_nil ?_
 refine keepK hK1 [0, 1] (by dsimp) (by dsimp) ?_
 refine T.seq fun K2 hK2 => ?_
 refine T.seq fun K3 hK3 => ?_
 refine T.drawH mixed [] ?_
 refine any_take 0 rfl (by first | rfl | decide +kernel) rfl (HeldL.refl _) (fun H' hH => OpOk.step (ok_move (.inl rfl))) ?_
 refine any_take 1 rfl (by first | rfl | decide +kernel) rfl (HeldL.refl _) (fun H' hH => OpOk.step (ok_nilCheck rfl rfl)) ?_
 refine any_take 2 rfl (by first | rfl | decide +kernel) rfl (HeldL.refl _) (fun H' hH => OpOk.step (ok_fieldAddr rfl ti_pack_Reader rfl rfl ti_api_Errno (by decide) rfl)) ?_
 refine any_take 3 rfl (by first | rfl | decide +kernel) rfl (HeldL.refl _) (fun H' hH => OpOk.step (ok_load rfl ti_api_Errno (locA_held hH rfl) rfl)) ?_
 refine any_take 4 rfl (by first | rfl | decide +kernel) rfl (HeldL.refl _) (fun H' hH => OpOk.step (OpOk.bool (d := true) (ok_binOp rfl ti_api_Errno rfl) (by simp))) ?_
 refine any_take 5 rfl (by first | rfl | decide +kernel) rfl (HeldL.refl _) (fun H' hH => OpOk.step (ok_moveb (c := true) (.inl rfl) rfl)) ?_
 refine any_take 6 rfl (by first | rfl | decide +kernel) rfl (HeldL.refl _) (fun H' hH => OpOk.step (ok_move (.inl rfl))) ?_
 refine any_take 7 rfl (by first | rfl | decide +kernel) rfl (HeldL.refl _) (fun H' hH => OpOk.step (ok_move (.inl rfl))) ?_
 refine any_take 8 rfl (by first | rfl | decide +kernel) rfl (HeldL.refl _) (fun H' hH => OpOk.step (ok_nilCheck rfl rfl)) ?_
 refine any_take 9 rfl (by first | rfl | decide +kernel) rfl (HeldL.refl _) (fun H' hH => OpOk.step (ok_fieldAddr rfl ti_pack_Reader rfl rfl ti_Luint8 (by decide) rfl)) ?_
 refine any_take 10 rfl (by first | rfl | decide +kernel) rfl (HeldL.refl _) (fun H' hH => OpOk.step (ok_load rfl ti_Luint8 (locA_held hH rfl) rfl)) ?_
 refine any_take 11 rfl (by first | rfl | decide +kernel) rfl (HeldL.refl _) (fun H' hH => OpOk.step ((ok_len rfl rfl ti_Luint8 rfl).eq (x' := .int l.length) (by rw [ints_length]) rfl)) ?_
 refine any_take 12 rfl (by first | rfl | decide +kernel) rfl (HeldL.refl _) (fun H' hH => OpOk.step (ok_move (.inl rfl))) ?_
 refine any_take 13 rfl (by first | rfl | decide +kernel) rfl (HeldL.refl _) (fun H' hH => OpOk.step (ok_nilCheck rfl rfl)) ?_
 refine any_take 14 rfl (by first | rfl | decide +kernel) rfl (HeldL.refl _) (fun H' hH => OpOk.step (ok_fieldAddr rfl ti_pack_Reader rfl rfl ti_int (by decide) rfl)) ?_
 refine any_take 15 rfl (by first | rfl | decide +kernel) rfl (HeldL.refl _) (fun H' hH => OpOk.step (ok_load rfl ti_int (locA_held hH rfl) rfl)) ?_
 refine any_take 16 rfl (by first | rfl | decide +kernel) rfl (HeldL.refl _) (fun H' hH => OpOk.step (ok_sub64 rfl ti_int rfl rfl (by omega) (by omega))) ?_
 refine any_take 17 rfl (by first | rfl | decide +kernel) rfl (HeldL.refl _) (fun H' hH => OpOk.step (OpOk.bool (d := true) (ok_binOp rfl ti_int rfl) (by simp; omega))) ?_
 refine any_take 18 rfl (by first | rfl | decide +kernel) rfl (HeldL.refl _) (fun H' hH => OpOk.step (ok_pickb (t := true) (d := true) rfl rfl rfl)) ?_
 refine any_done rfl ?_
 refine keepK hK3 [0, 1, 23] (by dsimp) (by dsimp) ?_
 refine T.cond_true rfl ?_
 refine T.region ?_
 refine rs rfl rfl (ok_move (.inl rfl)) ?_
 refine rs rfl rfl (ok_nilCheck rfl rfl) ?_
 refine rs rfl rfl (ok_fieldAddr rfl ti_pack_Reader rfl rfl ti_api_Errno (by decide) rfl) ?_
 refine rs rfl rfl (ok_store rfl ti_api_Errno (by decide) rfl rfl rfl rfl rfl (by first | exact Nat.le_of_ble_eq_true rfl | simp) (by first | exact .inl ⟨rfl, rfl⟩ | exact .inr rfl)) ?_
 refine ro_nil ?_
 refine keepK hK2 [0, 1] (by dsimp) (by dsimp) ?_
 refine T.seq fun K4 hK4 => ?_
 refine T.seq fun K5 hK5 => ?_
 refine T.region ?_
 refine rs rfl rfl (ok_move (.inl rfl)) ?_
 refine rs rfl rfl (ok_nilCheck rfl rfl) ?_
 refine rs rfl rfl (ok_fieldAddr rfl ti_pack_Reader rfl rfl ti_api_Errno (by decide) rfl) ?_
 refine rs rfl rfl (ok_load rfl ti_api_Errno rfl rfl) ?_
 refine rs rfl rfl (OpOk.bool (d := true) (ok_binOp rfl ti_api_Errno rfl) (by simp)) ?_
 refine ro_nil ?_
 refine keepK hK5 [0, 1, 31] (by dsimp) (by dsimp) ?_
 refine T.cond_true rfl ?_
 refine T.seq fun K6 hK6 => ?_
 refine T.region ?_
 refine rs rfl rfl (ok_move (.inr rfl)) ?_
 refine ro_nil ?_
 refine keepK hK6 [4] (by dsimp) (by dsimp) ?_
 refine T.ret (hQ _ _ _ rfl ?_).1 -- ret 1
 exact ((TEnt.put1 0 (Ent.nil 1)).trans (TEnt.toH rfl ⟨rfl, trivial⟩))
theorem take_good (l : List Int) (p n : Nat) (hn : p + n ≤ l.length) (hl : l.length ≤ 140737488355328) : CSpec Tryz.prog 93 [R l p 0] [.ref 0 0 0, .int n] [some (R l (p + n) 0)] (.fz 1 (ints .u8 ((l.drop p).take n))) := by
 refine CSpec.body Tryz.func93 rfl rfl rfl rfl rfl fun Q hQ => ?_
 refine T.seq fun K1 hK1 => ?_
 refine T.region ?_
 refine rs rfl rfl (ok_move (.inr rfl)) ?_
 refine ro_nil ?_
 refine keepK hK1 [0, 1] (by dsimp) (by dsimp) ?_
 refine T.seq fun K2 hK2 => ?_
 refine T.seq fun K3 hK3 => ?_
 refine T.drawH mixed [] ?_
 refine any_take 0 rfl (by first | rfl | decide +kernel) rfl (HeldL.refl _) (fun H' hH => OpOk.step (ok_move (.inl rfl))) ?_
 refine any_take 1 rfl (by first | rfl | decide +kernel) rfl (HeldL.refl _) (fun H' hH => OpOk.step (ok_nilCheck rfl rfl)) ?_
 refine any_take 2 rfl (by first | rfl | decide +kernel) rfl (HeldL.refl _) (fun H' hH => OpOk.step (ok_fieldAddr rfl ti_pack_Reader rfl rfl ti_api_Errno (by decide) rfl)) ?_
 refine any_take 3 rfl (by first | rfl | decide +kernel) rfl (HeldL.refl _) (fun H' hH => OpOk.step (ok_load rfl ti_api_Errno (locA_held hH rfl) rfl)) ?_
 refine any_take 4 rfl (by first | rfl | decide +kernel) rfl (HeldL.refl _) (fun H' hH => OpOk.step (OpOk.bool (d := true) (ok_binOp rfl ti_api_Errno rfl) (by simp))) ?_
 refine any_take 5 rfl (by first | rfl | decide +kernel) rfl (HeldL.refl _) (fun H' hH => OpOk.step (ok_moveb (c := true) (.inl rfl) rfl)) ?_
 refine any_take 6 rfl (by first | rfl | decide +kernel) rfl (HeldL.refl _) (fun H' hH => OpOk.step (ok_move (.inl rfl))) ?_
 refine any_take 7 rfl (by first | rfl | decide +kernel) rfl (HeldL.refl _) (fun H' hH => OpOk.step (ok_move (.inl rfl))) ?_
 refine any_take 8 rfl (by first | rfl | decide +kernel) rfl (HeldL.refl _) (fun H' hH => OpOk.step (ok_nilCheck rfl rfl)) ?_
 refine any_take 9 rfl (by first | rfl | decide +kernel) rfl (HeldL.refl _) (fun H' hH => OpOk.step (ok_fieldAddr rfl ti_pack_Reader rfl rfl ti_Luint8 (by decide) rfl)) ?_
 refine any_take 10 rfl (by first | rfl | decide +kernel) rfl (HeldL.refl _) (fun H' hH => OpOk.step (ok_load rfl ti_Luint8 (locA_held hH rfl) rfl)) ?_
 refine any_take 11 rfl (by first | rfl | decide +kernel) rfl (HeldL.refl _) (fun H' hH => OpOk.step ((ok_len rfl rfl ti_Luint8 rfl).eq (x' := .int l.length) (by rw [ints_length]) rfl)) ?_
 refine any_take 12 rfl (by first | rfl | decide +kernel) rfl (HeldL.refl _) (fun H' hH => OpOk.step (ok_move (.inl rfl))) ?_
 refine any_take 13 rfl (by first | rfl | decide +kernel) rfl (HeldL.refl _) (fun H' hH => OpOk.step (ok_nilCheck rfl rfl)) ?_
 refine any_take 14 rfl (by first | rfl | decide +kernel) rfl (HeldL.refl _) (fun H' hH => OpOk.step (ok_fieldAddr rfl ti_pack_Reader rfl rfl ti_int (by decide) rfl)) ?_
 refine any_take 15 rfl (by first | rfl | decide +kernel) rfl (HeldL.refl _) (fun H' hH => OpOk.step (ok_load rfl ti_int (locA_held hH rfl) rfl)) ?_
 refine any_take 16 rfl (by first | rfl | decide +kernel) rfl (HeldL.refl _) (fun H' hH => OpOk.step (ok_sub64 rfl ti_int rfl rfl (by omega) (by omega))) ?_
 refine any_take 17 rfl (by first | rfl | decide +kernel) rfl (HeldL.refl _) (fun H' hH => OpOk.step (OpOk.bool (d := false) (ok_binOp rfl ti_int rfl) (by simp; omega))) ?_
 refine any_take 18 rfl (by first | rfl | decide +kernel) rfl (HeldL.refl _) (fun H' hH => OpOk.step (ok_pickb (t := true) (d := false) rfl rfl rfl)) ?_
 refine any_done rfl ?_
 refine keepK hK3 [0, 1, 23] (by dsimp) (by dsimp) ?_
 refine T.cond_false rfl ?_
 refine T.skip ?_
 refine keepK hK2 [0, 1] (by dsimp) (by dsimp) ?_
 refine T.seq fun K4 hK4 => ?_
 refine T.seq fun K5 hK5 => ?_
 refine T.region ?_
 refine rs rfl rfl (ok_move (.inl rfl)) ?_
 refine rs rfl rfl (ok_nilCheck rfl rfl) ?_
 refine rs rfl rfl (ok_fieldAddr rfl ti_pack_Reader rfl rfl ti_api_Errno (by decide) rfl) ?_
 refine rs rfl rfl (ok_load rfl ti_api_Errno rfl rfl) ?_
 refine rs rfl rfl (OpOk.bool (d := false) (ok_binOp rfl ti_api_Errno rfl) (by simp)) ?_
 refine ro_nil ?_
 refine keepK hK5 [0, 1, 31] (by dsimp) (by dsimp) ?_
 refine T.cond_false rfl ?_
 refine T.skip ?_
 refine keepK hK4 [0, 1] (by dsimp) (by dsimp) ?_
 refine T.seq fun K6 hK6 => ?_
 refine T.region ?_
 refine rs rfl rfl (ok_move (.inl rfl)) ?_
 refine rs rfl rfl (ok_nilCheck rfl rfl) ?_
 refine rs rfl rfl (ok_fieldAddr rfl ti_pack_Reader rfl rfl ti_int (by decide) rfl) ?_
 refine rs rfl rfl (ok_load rfl ti_int rfl rfl) ?_
 refine rs rfl rfl (ok_move (.inl rfl)) ?_
 refine rs rfl rfl (ok_add64 rfl ti_int rfl rfl (by omega) (by omega)) ?_
 refine rs rfl rfl (ok_nilCheck rfl rfl) ?_
 refine rs rfl rfl (ok_fieldAddr rfl ti_pack_Reader rfl rfl ti_int (by decide) rfl) ?_
 refine rs rfl rfl (ok_store rfl ti_int (by decide) rfl rfl rfl rfl rfl (by first | exact Nat.le_of_ble_eq_true rfl | simp) (by first | exact .inl ⟨rfl, rfl⟩ | exact .inr rfl)) ?_
 refine ro_nil ?_
 refine keepK hK6 [0, 1] (by dsimp) (by dsimp) ?_
 refine T.seq fun K7 hK7 => ?_
 refine T.drawH mixed [] ?_
 refine any_take 0 rfl (by first | rfl | decide +kernel) rfl (HeldL.refl _) (fun H' hH => OpOk.step (ok_move (.inl rfl))) ?_
 refine any_take 1 rfl (by first | rfl | decide +kernel) rfl (HeldL.refl _) (fun H' hH => OpOk.step (ok_nilCheck rfl rfl)) ?_
 refine any_take 2 rfl (by first | rfl | decide +kernel) rfl (HeldL.refl _) (fun H' hH => OpOk.step (ok_fieldAddr rfl ti_pack_Reader rfl rfl ti_Luint8 (by decide) rfl)) ?_
 refine any_take 3 rfl (by first | rfl | decide +kernel) rfl (HeldL.refl _) (fun H' hH => OpOk.step (ok_load rfl ti_Luint8 (locA_held hH rfl) rfl)) ?_
 refine any_take 4 rfl (by first | rfl | decide +kernel) rfl (HeldL.refl _) (fun H' hH => OpOk.step (ok_move (.inl rfl))) ?_
 refine any_take 5 rfl (by first | rfl | decide +kernel) rfl (HeldL.refl _) (fun H' hH => OpOk.step (ok_nilCheck rfl rfl)) ?_
 refine any_take 6 rfl (by first | rfl | decide +kernel) rfl (HeldL.refl _) (fun H' hH => OpOk.step (ok_fieldAddr rfl ti_pack_Reader rfl rfl ti_int (by decide) rfl)) ?_
 refine any_take 7 rfl (by first | rfl | decide +kernel) rfl (HeldL.refl _) (fun H' hH => OpOk.step (ok_load rfl ti_int (locA_held hH rfl) rfl)) ?_
 refine any_take 8 rfl (by first | rfl | decide +kernel) rfl (HeldL.refl _) (fun H' hH => OpOk.step (ok_move (.inl rfl))) ?_
 refine any_take 9 rfl (by first | rfl | decide +kernel) rfl (HeldL.refl _) (fun H' hH => OpOk.step ((ok_sub64 rfl ti_int rfl rfl (by omega) (by omega)).eq (x' := .int p) (by refine congrArg AV.int ?_; omega) rfl)) ?_
 refine any_take 10 rfl (by first | rfl | decide +kernel) rfl (HeldL.refl _) (fun H' hH => OpOk.step (ok_move (.inl rfl))) ?_
 refine any_take 11 rfl (by first | rfl | decide +kernel) rfl (HeldL.refl _) (fun H' hH => OpOk.step (ok_nilCheck rfl rfl)) ?_
 refine any_take 12 rfl (by first | rfl | decide +kernel) rfl (HeldL.refl _) (fun H' hH => OpOk.step (ok_fieldAddr rfl ti_pack_Reader rfl rfl ti_int (by decide) rfl)) ?_
 refine any_take 13 rfl (by first | rfl | decide +kernel) rfl (HeldL.refl _) (fun H' hH => OpOk.step (ok_load rfl ti_int (locA_held hH rfl) rfl)) ?_
 refine any_take 14 rfl (by first | rfl | decide +kernel) rfl (HeldL.refl _) (fun H' hH => OpOk.step ((ok_slice rfl ti_Luint8 (.inl ⟨_, _, rfl, ti_uint8, rfl⟩) (zl := some (p : Int)) (zh := some ((p : Int) + (n : Int))) rfl rfl rfl (r := .fz 1 (ints .u8 ((l.drop p).take n))) (sliceA_held hH (by
  have h1 : ((p : Int) + (n : Int)).toNat = p + n := by omega
  have h2 : (p : Int) + (n : Int) ≤ l.length := by omega
  have h3 : (p : Int) ≤ (p : Int) + (n : Int) := by omega
  simp [sliceA, h1, h2, h3, ints, List.drop_take]))))) ?_
 refine any_take 15 rfl (by first | rfl | decide +kernel) rfl (HeldL.refl _) (fun H' hH => OpOk.step (ok_move (.inr rfl))) ?_
 refine any_done rfl ?_
 refine keepK hK7 [4] (by dsimp) (by dsimp) ?_
 refine T.ret (hQ _ _ _ rfl ?_).1 -- ret 1
 exact TEnt.fin [0] (by decide) (by simp) (by simp [normH, hget, R, Blk.ren, renL, AV.ren, renL_ints]) ⟨by simp [tupA, AV.ren, renL_ints], trivial⟩
theorem wrap64_mod (n : Int) : IntKind.i64.wrap n % 18446744073709551616 = n % 18446744073709551616 := by
  simp [IntKind.wrap, IntKind.bits, IntKind.signed]
  split <;> omega
theorem or64 (a b m : Nat) (ha : a < 2 ^ m) (hb : a + b * 2 ^ m < 18446744073709551616) : Go.bits .or .i64 (IntKind.i64.wrap a) (IntKind.i64.wrap (b * 2 ^ m : Nat)) = IntKind.i64.wrap (a + b * 2 ^ m : Nat) := by
  have h1 : (IntKind.i64.wrap (a : Int) % 18446744073709551616).toNat = a := by rw [wrap64_mod]; omega
  have h2 : (IntKind.i64.wrap ((b * 2 ^ m : Nat) : Int) % 18446744073709551616).toNat = b * 2 ^ m := by
    rw [wrap64_mod]
    generalize b * 2 ^ m = c at hb
    omega
  have e : ((2 ^ IntKind.i64.bits : Nat) : Int) = 18446744073709551616 := by decide
  have h3 : a ||| b * 2 ^ m = a + b * 2 ^ m := by
    rw [Nat.or_comm, Nat.mul_comm b, ← Nat.two_pow_add_eq_or_of_lt ha, Nat.add_comm]
  simp only [Go.bits, BitVec.toNat_or, BitVec.toNat_ofInt, e, h1, h2, h3]
/-- A number out of its bytes, the lowest first. -/
def num (l : List Int) : Nat → Nat
  | 0 => 0
  | i + 1 => num l i + (l.getD i 0).toNat * 2 ^ (8 * i)
theorem num_lt {l : List Int} (h : ∀ i, (l.getD i 0).toNat < 256) : ∀ i, num l i < 2 ^ (8 * i)
  | 0 => by simp [num]
  | i + 1 => by
    have ih := num_lt h i
    have hb := h i
    have e : 2 ^ (8 * (i + 1)) = 256 * 2 ^ (8 * i) := by rw [Nat.mul_add, Nat.pow_add]; omega
    have : (l.getD i 0).toNat * 2 ^ (8 * i) ≤ 255 * 2 ^ (8 * i) := Nat.mul_le_mul_right _ (by omega)
    simp only [num]
    omega
theorem pk_byte {l : List Int} (h : Bytes l) (i : Nat) : 0 ≤ l.getD i 0 ∧ l.getD i 0 < 256 := by
  rw [List.getD_eq_getElem?_getD]
  cases hi : l[i]? with
  | none => simp
  | some c => exact h c (List.mem_of_getElem? hi)
theorem pk_nat {l : List Int} (h : Bytes l) (i : Nat) : (l.getD i 0).toNat < 256 := by have := pk_byte h i; omega
/-- The eight bytes at a place, as a number. -/
def val8 (l : List Int) (p : Nat) : Int := IntKind.i64.wrap (num ((l.drop p).take 8) 8 : Nat)
theorem pass0 {l : List Int} {p : Nat} {e : Int} {H : Heap} (l' : List Int) (p' : Nat) (e' : Int) : mergeH [some (R l p e)] [0] [some (R l' p' e')] = [some (R l' p' e')] := by
  simp [mergeH, setIds, renH, R, Blk.ren, renL, AV.ren, renL_ints]
theorem normR (l : List Int) (p : Nat) (e : Int) : normH [0] [some (R l p e)] = [some (R l p e)] := by
  simp [normH, hget, R, Blk.ren, renL, AV.ren, renL_ints]
theorem int_dead (l : List Int) (p : Nat) (e : Int) (a b : Int) (he : e ≠ 0) : CSpec Tryz.prog 62 [R l p e] [.ref 0 0 0, .int a, .int b] [some (R l p e)] (.int 0) := by
 refine CSpec.body Tryz.func62 rfl rfl rfl rfl rfl fun Q hQ => ?_
 refine T.seq fun K1 hK1 => ?_
 refine T.region ?_
 refine rs rfl rfl (ok_move (.inr rfl)) ?_
 refine ro_nil ?_
 refine keepK hK1 [0, 1, 2] (by dsimp) (by dsimp) ?_
 refine T.seq fun K2 hK2 => ?_
 refine T.seq fun K3 hK3 => ?_
 refine T.region ?_
 refine rs rfl rfl (ok_move (.inl rfl)) ?_
 refine rs rfl rfl (OpOk.bool (d := false) (ok_binOp rfl ti_Ppack_Reader rfl) (rfl)) ?_
 refine ro_nil ?_
 refine keepK hK3 [0, 1, 2, 11] (by dsimp) (by dsimp) ?_
 refine T.cond_false rfl ?_
 refine T.skip ?_
 refine keepK hK2 [0, 1, 2] (by dsimp) (by dsimp) ?_
 refine T.seq fun K4 hK4 => ?_
 refine T.region ?_
 refine rs rfl rfl (ok_move (.inl rfl)) ?_
 refine ro rfl rfl (ok_call rfl rfl rfl (((take_dead l p e 8 he).pass [0] (by decide) (by simp) (normR _ _ _) rfl).eq (x' := .fz 1 (ints .u8 [])) (H'' := [some (R l p e)]) rfl (pass0 (H := []) _ _ _))) ?_
 refine rs rfl rfl (ok_move (.inr rfl)) ?_
 refine ro_nil ?_
 refine keepK hK4 [0, 1, 2, 7] (by dsimp) (by dsimp) ?_
 refine T.seq fun K5 hK5 => ?_
 refine T.seq fun K6 hK6 => ?_
 refine T.region ?_
 refine rs rfl rfl (ok_move (.inl rfl)) ?_
 refine rs rfl rfl (ok_nilCheck rfl rfl) ?_
 refine rs rfl rfl (ok_fieldAddr rfl ti_pack_Reader rfl rfl ti_api_Errno (by decide) rfl) ?_
 refine rs rfl rfl (ok_load rfl ti_api_Errno rfl rfl) ?_
 refine rs rfl rfl (OpOk.bool (d := true) (ok_binOp rfl ti_api_Errno rfl) (by simp [he])) ?_
 refine ro_nil ?_
 refine keepK hK6 [0, 1, 2, 7, 18] (by dsimp) (by dsimp) ?_
 refine T.cond_true rfl ?_
 refine T.seq fun K7 hK7 => ?_
 refine T.region ?_
 refine rs rfl rfl (ok_move (.inr rfl)) ?_
 refine ro_nil ?_
 refine keepK hK7 [6] (by dsimp) (by dsimp) ?_
 refine T.ret (hQ _ _ _ rfl ?_).1 -- ret 1
 exact TEnt.toH rfl ⟨rfl, trivial⟩
theorem int_short (l : List Int) (p : Nat) (a b : Int) (hn : l.length < p + 8) (hp : p ≤ l.length) (hl : l.length ≤ 140737488355328) : CSpec Tryz.prog 62 [R l p 0] [.ref 0 0 0, .int a, .int b] [some (R l p 14)] (.int 0) := by
 refine CSpec.body Tryz.func62 rfl rfl rfl rfl rfl fun Q hQ => ?_
 refine T.seq fun K1 hK1 => ?_
 refine T.region ?_
 refine rs rfl rfl (ok_move (.inr rfl)) ?_
 refine ro_nil ?_
 refine keepK hK1 [0, 1, 2] (by dsimp) (by dsimp) ?_
 refine T.seq fun K2 hK2 => ?_
 refine T.seq fun K3 hK3 => ?_
 refine T.region ?_
 refine rs rfl rfl (ok_move (.inl rfl)) ?_
 refine rs rfl rfl (OpOk.bool (d := false) (ok_binOp rfl ti_Ppack_Reader rfl) (rfl)) ?_
 refine ro_nil ?_
 refine keepK hK3 [0, 1, 2, 11] (by dsimp) (by dsimp) ?_
 refine T.cond_false rfl ?_
 refine T.skip ?_
 refine keepK hK2 [0, 1, 2] (by dsimp) (by dsimp) ?_
 refine T.seq fun K4 hK4 => ?_
 refine T.region ?_
 refine rs rfl rfl (ok_move (.inl rfl)) ?_
 refine ro rfl rfl (ok_call rfl rfl rfl (((take_short l p 8 hn hp hl).pass [0] (by decide) (by simp) (normR _ _ _) rfl).eq (x' := .fz 1 (ints .u8 [])) (H'' := [some (R l p 14)]) rfl (pass0 (H := []) _ _ _))) ?_
 refine rs rfl rfl (ok_move (.inr rfl)) ?_
 refine ro_nil ?_
 refine keepK hK4 [0, 1, 2, 7] (by dsimp) (by dsimp) ?_
 refine T.seq fun K5 hK5 => ?_
 refine T.seq fun K6 hK6 => ?_
 refine T.region ?_
 refine rs rfl rfl (ok_move (.inl rfl)) ?_
 refine rs rfl rfl (ok_nilCheck rfl rfl) ?_
 refine rs rfl rfl (ok_fieldAddr rfl ti_pack_Reader rfl rfl ti_api_Errno (by decide) rfl) ?_
 refine rs rfl rfl (ok_load rfl ti_api_Errno rfl rfl) ?_
 refine rs rfl rfl (OpOk.bool (d := true) (ok_binOp rfl ti_api_Errno rfl) (by simp)) ?_
 refine ro_nil ?_
 refine keepK hK6 [0, 1, 2, 7, 18] (by dsimp) (by dsimp) ?_
 refine T.cond_true rfl ?_
 refine T.seq fun K7 hK7 => ?_
 refine T.region ?_
 refine rs rfl rfl (ok_move (.inr rfl)) ?_
 refine ro_nil ?_
 refine keepK hK7 [6] (by dsimp) (by dsimp) ?_
 refine T.ret (hQ _ _ _ rfl ?_).1 -- ret 1
 exact TEnt.toH rfl ⟨rfl, trivial⟩
theorem int_good (l : List Int) (p : Nat) (a b : Int) (hB : Bytes l) (hn : p + 8 ≤ l.length) (hl : l.length ≤ 140737488355328) : CSpec Tryz.prog 62 [R l p 0] [.ref 0 0 0, .int a, .int b] [some (R l (p + 8) (if val8 l p < a ∨ b < val8 l p then 13 else 0))] (.int (if val8 l p < a ∨ b < val8 l p then 0 else val8 l p)) := by
 obtain ⟨r, hr⟩ : ∃ r, (l.drop p).take 8 = r := ⟨_, rfl⟩
 have hrl : r.length = 8 := by rw [← hr]; simp; omega
 have hrB : Bytes r := fun x hx => hB x (List.mem_of_mem_drop (List.mem_of_mem_take (hr ▸ hx)))
 have hv8 : val8 l p = IntKind.i64.wrap (num r 8 : Nat) := by unfold val8; rw [hr]
 refine CSpec.body Tryz.func62 rfl rfl rfl rfl rfl fun Q hQ => ?_
 refine T.seq fun K1 hK1 => ?_
 refine T.region ?_
 refine rs rfl rfl (ok_move (.inr rfl)) ?_
 refine ro_nil ?_
 refine keepK hK1 [0, 1, 2] (by dsimp) (by dsimp) ?_
 refine T.seq fun K2 hK2 => ?_
 refine T.seq fun K3 hK3 => ?_
 refine T.region ?_
 refine rs rfl rfl (ok_move (.inl rfl)) ?_
 refine rs rfl rfl (OpOk.bool (d := false) (ok_binOp rfl ti_Ppack_Reader rfl) (rfl)) ?_
 refine ro_nil ?_
 refine keepK hK3 [0, 1, 2, 11] (by dsimp) (by dsimp) ?_
 refine T.cond_false rfl ?_
 refine T.skip ?_
 refine keepK hK2 [0, 1, 2] (by dsimp) (by dsimp) ?_
 refine T.seq fun K4 hK4 => ?_
 refine T.region ?_
 refine rs rfl rfl (ok_move (.inl rfl)) ?_
 refine ro rfl rfl (ok_call rfl rfl rfl (((take_good l p 8 hn hl).pass [0] (by decide) (by simp) (normR _ _ _) rfl).eq (x' := .fz 1 (ints .u8 r)) (H'' := [some (R l (p + 8) 0)]) (by rw [hr]; simp [AV.ren, renL_ints]) (pass0 (H := []) _ _ _))) ?_
 refine rs rfl rfl (ok_move (.inr rfl)) ?_
 refine ro_nil ?_
 refine keepK hK4 [0, 1, 2, 7] (by dsimp) (by dsimp) ?_
 refine T.seq fun K5 hK5 => ?_
 refine T.seq fun K6 hK6 => ?_
 refine T.region ?_
 refine rs rfl rfl (ok_move (.inl rfl)) ?_
 refine rs rfl rfl (ok_nilCheck rfl rfl) ?_
 refine rs rfl rfl (ok_fieldAddr rfl ti_pack_Reader rfl rfl ti_api_Errno (by decide) rfl) ?_
 refine rs rfl rfl (ok_load rfl ti_api_Errno rfl rfl) ?_
 refine rs rfl rfl (OpOk.bool (d := false) (ok_binOp rfl ti_api_Errno rfl) (by simp)) ?_
 refine ro_nil ?_
 refine keepK hK6 [0, 1, 2, 7, 18] (by dsimp) (by dsimp) ?_
 refine T.cond_false rfl ?_
 refine T.skip ?_
 refine keepK hK5 [0, 1, 2, 7] (by dsimp) (by dsimp) ?_
 refine T.seq fun K7 hK7 => ?_
 refine T.region ?_
 refine rs rfl rfl (ok_move (.inr rfl)) ?_
 refine ro_nil ?_
 refine keepK hK7 [0, 1, 2, 7, 8] (by dsimp) (by dsimp) ?_
 refine T.seq fun K8 hK8 => ?_
 refine T.seq fun K9 hK9 => ?_
 refine T.region ?_
 refine rs rfl rfl (ok_move (.inl rfl)) ?_
 refine ro_nil ?_
 refine keepK hK9 [0, 1, 2, 7, 8, 19] (by dsimp) (by dsimp) ?_
 refine T.block ?_
 refine T.loopI (ι := Nat) (fun i => i ≤ 8) (fun i => 8 - i) (fun i => ([(0, .ref 0 0 0), (1, .int a), (2, .int b), (7, .fz 1 (ints .u8 r)), (8, .int (IntKind.i64.wrap (num r i : Nat))), (19, .int i)], [some (R l (p + 8) 0)])) 0 (Nat.zero_le _) (TEnt.toH rfl ⟨rfl, rfl, rfl, rfl, rfl, rfl, trivial⟩) (fun i hi => ?_) -- loop 1
 refine T.seq fun K10 hK10 => ?_
 refine T.region ?_
 refine rs rfl rfl (ok_binOp rfl ti_int rfl) ?_
 refine ro_nil ?_
 refine keepK hK10 [0, 1, 2, 7, 8, 19, 20] (by dsimp) (by dsimp) ?_
 refine T.seq fun K11 hK11 => ?_
 refine T.cond rfl (fun hc => ?_) (fun hc => ?_) -- cond 1
 ·(try simp only [dE] at hc)
  have hi8 : i < 8 := by omega
  obtain ⟨c, hci⟩ : ∃ c, r[i]? = some c := ⟨_, List.getElem?_eq_getElem (by omega)⟩
  have hcd : r.getD i 0 = c := by rw [List.getD_eq_getElem?_getD, hci]; rfl
  have hcb := hrB c (List.mem_of_getElem? hci)
  obtain ⟨c, rfl⟩ := Int.eq_ofNat_of_zero_le hcb.1
  have hnum : num r (i + 1) = num r i + c * 2 ^ (8 * i) := by simp only [num, hcd]; rfl
  have hlt := num_lt (fun j => pk_nat hrB j) i
  have hlt1 := num_lt (fun j => pk_nat hrB j) (i + 1)
  have h64 : 2 ^ (8 * (i + 1)) ≤ 18446744073709551616 := Nat.le_trans (Nat.pow_le_pow_right (by decide) (by omega : 8 * (i + 1) ≤ 64)) (by decide)
  refine T.skip ?_
  refine keepK hK11 [0, 1, 2, 7, 8, 19] (by dsimp) (by dsimp) ?_
  refine T.seq fun K12 hK12 => ?_
  refine T.block ?_
  refine T.seq fun K13 hK13 => ?_
  refine T.region ?_
  refine rs rfl rfl (ok_move (.inl rfl)) ?_
  refine rs rfl rfl (ok_move (.inr rfl)) ?_
  refine ro_nil ?_
  refine keepK hK13 [0, 1, 2, 7, 8, 9, 19] (by dsimp) (by dsimp) ?_
  refine T.region ?_
  refine rs rfl rfl (ok_move (.inl rfl)) ?_
  refine rs rfl rfl (ok_move (.inl rfl)) ?_
  refine rs rfl rfl (ok_move (.inl rfl)) ?_
  refine rs rfl rfl (by exact ok_index_ints rfl ti_Luint8 rfl ti_uint8 rfl rfl rfl (by omega) hci) ?_
  refine rs rfl rfl (ok_load rfl ti_uint8 rfl rfl) ?_
  refine rs rfl rfl ((ok_conv_int rfl ti_uint8 ti_int rfl rfl).eq (x' := .int c) (by rw [wrap_i64 (by omega) (by omega)]) rfl) ?_
  refine rs rfl rfl (ok_move (.inl rfl)) ?_
  refine rs rfl rfl ((ok_mul64 rfl ti_int rfl rfl (by omega) (by omega)).eq (x' := .int (8 * i : Nat)) rfl rfl) ?_
  refine rs rfl rfl ((ok_shl rfl ti_int (8 * i) rfl rfl (by show 8 * i ≤ 64; omega) (m := ((2 ^ (8 * i) : Nat) : Int)) (by simp)).eq (x' := .int (IntKind.i64.wrap (c * 2 ^ (8 * i) : Nat))) (by simp) rfl) ?_
  refine rs rfl rfl ((ok_bits .or rfl ti_int rfl rfl (.inr (.inl rfl))).eq (x' := .int (IntKind.i64.wrap (num r (i + 1) : Nat))) (by rw [hnum] at hlt1 ⊢; exact congrArg AV.int (or64 _ _ _ hlt (by omega))) rfl) ?_
  refine rs rfl rfl (ok_move (.inr rfl)) ?_
  refine ro_nil ?_
  refine keepK hK12 [0, 1, 2, 7, 8, 19] (by dsimp) (by dsimp) ?_
  refine T.region ?_
  refine rs rfl rfl (ok_add64 rfl ti_int rfl rfl (by omega) (by omega)) ?_
  refine rs rfl rfl (ok_move (.inl rfl)) ?_
  refine ro_nil ?_
  exact ⟨i + 1, by omega, by omega, TEnt.toH rfl ⟨rfl, rfl, rfl, rfl, rfl, rfl, trivial⟩⟩
 ·(try simp only [dE] at hc)
  have hi8 : i = 8 := by omega
  subst hi8
  rw [← hv8]
  generalize val8 l p = v at hQ ⊢
  refine T.exit ?_
  refine keepK hK8 [0, 1, 2, 8] (by dsimp) (by dsimp) ?_
  refine T.seq fun K14 hK14 => ?_
  refine T.seq fun K15 hK15 => ?_
  refine T.region ?_
  refine rs rfl rfl (ok_move (.inl rfl)) ?_
  refine rs rfl rfl (ok_move (.inl rfl)) ?_
  refine rs rfl rfl (ok_binOp rfl ti_int rfl) ?_
  refine ro_case rfl rfl (OpOk.step (ok_moveb (.inl rfl) rfl)) (fun hb => ?_) (fun hb => ?_)
  ·(try simp only [dE] at hb)
   have hout : v < a ∨ b < v := .inl hb
   rw [if_pos hout, if_pos hout] at hQ
   refine ro_skip rfl rfl ?_
   refine ro_skip rfl rfl ?_
   refine ro_skip rfl rfl ?_
   refine rs rfl rfl (ok_pickb (t := true) (d := true) rfl rfl rfl) ?_
   refine ro_nil ?_
   refine keepK hK15 [0, 8, 40] (by dsimp) (by dsimp) ?_
   refine T.cond_true rfl ?_
   refine T.seq fun K16 hK16 => ?_
   refine T.region ?_
   refine rs rfl rfl (ok_move (.inl rfl)) ?_
   refine rs rfl rfl (ok_nilCheck rfl rfl) ?_
   refine rs rfl rfl (ok_fieldAddr rfl ti_pack_Reader rfl rfl ti_api_Errno (by decide) rfl) ?_
   refine rs rfl rfl (ok_store rfl ti_api_Errno (by decide) rfl rfl rfl rfl rfl (by first | exact Nat.le_of_ble_eq_true rfl | simp) (by first | exact .inl ⟨rfl, rfl⟩ | exact .inr rfl)) ?_
   refine ro_nil ?_
   refine keepK hK16 [] (by dsimp) (by dsimp) ?_
   refine T.seq fun K17 hK17 => ?_
   refine T.region ?_
   refine rs rfl rfl (ok_move (.inr rfl)) ?_
   refine ro_nil ?_
   refine keepK hK17 [6] (by dsimp) (by dsimp) ?_
   refine T.ret (hQ _ _ _ rfl ?_).1 -- ret 1
   exact TEnt.toH rfl ⟨rfl, trivial⟩
  ·(try simp only [dE] at hb)
   refine rs rfl rfl (ok_move (.inl rfl)) ?_
   refine rs rfl rfl (ok_move (.inl rfl)) ?_
   refine rs rfl rfl (ok_binOp rfl ti_int rfl) ?_
   refine rs rfl rfl (ok_pick rfl rfl) ?_
   refine ro_nil ?_
   refine keepK hK15 [0, 8, 40] (by dsimp) (by dsimp) ?_
   refine T.cond rfl (fun hc => ?_) (fun hc => ?_) -- cond 2
   ·(try simp only [dE] at hc)
    have hout : v < a ∨ b < v := .inr hc
    rw [if_pos hout, if_pos hout] at hQ
    refine T.seq fun K18 hK18 => ?_
    refine T.region ?_
    refine rs rfl rfl (ok_move (.inl rfl)) ?_
    refine rs rfl rfl (ok_nilCheck rfl rfl) ?_
    refine rs rfl rfl (ok_fieldAddr rfl ti_pack_Reader rfl rfl ti_api_Errno (by decide) rfl) ?_
    refine rs rfl rfl (ok_store rfl ti_api_Errno (by decide) rfl rfl rfl rfl rfl (by first | exact Nat.le_of_ble_eq_true rfl | simp) (by first | exact .inl ⟨rfl, rfl⟩ | exact .inr rfl)) ?_
    refine ro_nil ?_
    refine keepK hK18 [] (by dsimp) (by dsimp) ?_
    refine T.seq fun K19 hK19 => ?_
    refine T.region ?_
    refine rs rfl rfl (ok_move (.inr rfl)) ?_
    refine ro_nil ?_
    refine keepK hK19 [6] (by dsimp) (by dsimp) ?_
    refine T.ret (hQ _ _ _ rfl ?_).1 -- ret 2
    exact TEnt.toH rfl ⟨rfl, trivial⟩
   ·(try simp only [dE] at hc)
    have hout : ¬ (v < a ∨ b < v) := by omega
    rw [if_neg hout, if_neg hout] at hQ
    refine T.skip ?_
    refine keepK hK14 [8] (by dsimp) (by dsimp) ?_
    refine T.seq fun K20 hK20 => ?_
    refine T.region ?_
    refine rs rfl rfl (ok_move (.inl rfl)) ?_
    refine rs rfl rfl (ok_move (.inr rfl)) ?_
    refine ro_nil ?_
    refine keepK hK20 [6] (by dsimp) (by dsimp) ?_
    refine T.ret (hQ _ _ _ rfl ?_).1 -- ret 3
    exact TEnt.toH rfl ⟨rfl, trivial⟩
theorem flag_dead (l : List Int) (p : Nat) (e : Int) (he : e ≠ 0) : CSpec Tryz.prog 114 [R l p e] [.ref 0 0 0] [some (R l p e)] (.b false) := by
 refine CSpec.body Tryz.func114 rfl rfl rfl rfl rfl fun Q hQ => ?_
 refine T.seq fun K1 hK1 => ?_
 refine T.region ?_
 refine rs rfl rfl (ok_moveb (c := false) (.inr rfl) rfl) ?_
 refine ro_nil ?_
 refine keepK hK1 [0] (by dsimp) (by dsimp) ?_
 refine T.seq fun K2 hK2 => ?_
 refine T.seq fun K3 hK3 => ?_
 refine T.region ?_
 refine rs rfl rfl (ok_move (.inl rfl)) ?_
 refine rs rfl rfl (OpOk.bool (d := false) (ok_binOp rfl ti_Ppack_Reader rfl) (rfl)) ?_
 refine ro_nil ?_
 refine keepK hK3 [0, 5] (by dsimp) (by dsimp) ?_
 refine T.cond_false rfl ?_
 refine T.skip ?_
 refine keepK hK2 [0] (by dsimp) (by dsimp) ?_
 refine T.seq fun K4 hK4 => ?_
 refine T.region ?_
 refine rs rfl rfl (ok_move (.inl rfl)) ?_
 refine ro rfl rfl (ok_call rfl rfl rfl (((take_dead l p e 1 he).pass [0] (by decide) (by simp) (normR _ _ _) rfl).eq (x' := .fz 1 (ints .u8 [])) (H'' := [some (R l p e)]) rfl (pass0 (H := []) _ _ _))) ?_
 refine rs rfl rfl (ok_move (.inr rfl)) ?_
 refine ro_nil ?_
 refine keepK hK4 [0, 3] (by dsimp) (by dsimp) ?_
 refine T.seq fun K5 hK5 => ?_
 refine T.seq fun K6 hK6 => ?_
 refine T.region ?_
 refine rs rfl rfl (ok_move (.inl rfl)) ?_
 refine rs rfl rfl (ok_nilCheck rfl rfl) ?_
 refine rs rfl rfl (ok_fieldAddr rfl ti_pack_Reader rfl rfl ti_api_Errno (by decide) rfl) ?_
 refine rs rfl rfl (ok_load rfl ti_api_Errno rfl rfl) ?_
 refine rs rfl rfl (OpOk.bool (d := true) (ok_binOp rfl ti_api_Errno rfl) (by simp [he])) ?_
 refine ro_nil ?_
 refine keepK hK6 [0, 3, 12] (by dsimp) (by dsimp) ?_
 refine T.cond_true rfl ?_
 refine T.seq fun K7 hK7 => ?_
 refine T.region ?_
 refine rs rfl rfl (ok_moveb (c := false) (.inr rfl) rfl) ?_
 refine ro_nil ?_
 refine keepK hK7 [2] (by dsimp) (by dsimp) ?_
 refine T.ret (hQ _ _ _ rfl ?_).1 -- ret 1
 exact TEnt.toH rfl ⟨rfl, trivial⟩
theorem flag_short (l : List Int) (p : Nat) (hn : l.length < p + 1) (hp : p ≤ l.length) (hl : l.length ≤ 140737488355328) : CSpec Tryz.prog 114 [R l p 0] [.ref 0 0 0] [some (R l p 14)] (.b false) := by
 refine CSpec.body Tryz.func114 rfl rfl rfl rfl rfl fun Q hQ => ?_
 refine T.seq fun K1 hK1 => ?_
 refine T.region ?_
 refine rs rfl rfl (ok_moveb (c := false) (.inr rfl) rfl) ?_
 refine ro_nil ?_
 refine keepK hK1 [0] (by dsimp) (by dsimp) ?_
 refine T.seq fun K2 hK2 => ?_
 refine T.seq fun K3 hK3 => ?_
 refine T.region ?_
 refine rs rfl rfl (ok_move (.inl rfl)) ?_
 refine rs rfl rfl (OpOk.bool (d := false) (ok_binOp rfl ti_Ppack_Reader rfl) (rfl)) ?_
 refine ro_nil ?_
 refine keepK hK3 [0, 5] (by dsimp) (by dsimp) ?_
 refine T.cond_false rfl ?_
 refine T.skip ?_
 refine keepK hK2 [0] (by dsimp) (by dsimp) ?_
 refine T.seq fun K4 hK4 => ?_
 refine T.region ?_
 refine rs rfl rfl (ok_move (.inl rfl)) ?_
 refine ro rfl rfl (ok_call rfl rfl rfl (((take_short l p 1 hn hp hl).pass [0] (by decide) (by simp) (normR _ _ _) rfl).eq (x' := .fz 1 (ints .u8 [])) (H'' := [some (R l p 14)]) rfl (pass0 (H := []) _ _ _))) ?_
 refine rs rfl rfl (ok_move (.inr rfl)) ?_
 refine ro_nil ?_
 refine keepK hK4 [0, 3] (by dsimp) (by dsimp) ?_
 refine T.seq fun K5 hK5 => ?_
 refine T.seq fun K6 hK6 => ?_
 refine T.region ?_
 refine rs rfl rfl (ok_move (.inl rfl)) ?_
 refine rs rfl rfl (ok_nilCheck rfl rfl) ?_
 refine rs rfl rfl (ok_fieldAddr rfl ti_pack_Reader rfl rfl ti_api_Errno (by decide) rfl) ?_
 refine rs rfl rfl (ok_load rfl ti_api_Errno rfl rfl) ?_
 refine rs rfl rfl (OpOk.bool (d := true) (ok_binOp rfl ti_api_Errno rfl) (by simp)) ?_
 refine ro_nil ?_
 refine keepK hK6 [0, 3, 12] (by dsimp) (by dsimp) ?_
 refine T.cond_true rfl ?_
 refine T.seq fun K7 hK7 => ?_
 refine T.region ?_
 refine rs rfl rfl (ok_moveb (c := false) (.inr rfl) rfl) ?_
 refine ro_nil ?_
 refine keepK hK7 [2] (by dsimp) (by dsimp) ?_
 refine T.ret (hQ _ _ _ rfl ?_).1 -- ret 1
 exact TEnt.toH rfl ⟨rfl, trivial⟩
theorem flag_good (l : List Int) (p : Nat) (c : Int) (hc0 : l[p]? = some c) (hl : l.length ≤ 140737488355328) : CSpec Tryz.prog 114 [R l p 0] [.ref 0 0 0] [some (R l (p + 1) (if 1 < c then 13 else 0))] (.b (c == 1)) := by
 have hn : p + 1 ≤ l.length := (List.getElem?_eq_some_iff.1 hc0).1
 have hr : (l.drop p).take 1 = [c] := by
   have hcc : l[p] = c := (List.getElem?_eq_some_iff.1 hc0).2
   rw [List.drop_eq_getElem_cons hn, hcc]
   rfl
 refine CSpec.body Tryz.func114 rfl rfl rfl rfl rfl fun Q hQ => ?_
 refine T.seq fun K1 hK1 => ?_
 refine T.region ?_
 refine rs rfl rfl (ok_moveb (c := false) (.inr rfl) rfl) ?_
 refine ro_nil ?_
 refine keepK hK1 [0] (by dsimp) (by dsimp) ?_
 refine T.seq fun K2 hK2 => ?_
 refine T.seq fun K3 hK3 => ?_
 refine T.region ?_
 refine rs rfl rfl (ok_move (.inl rfl)) ?_
 refine rs rfl rfl (OpOk.bool (d := false) (ok_binOp rfl ti_Ppack_Reader rfl) (rfl)) ?_
 refine ro_nil ?_
 refine keepK hK3 [0, 5] (by dsimp) (by dsimp) ?_
 refine T.cond_false rfl ?_
 refine T.skip ?_
 refine keepK hK2 [0] (by dsimp) (by dsimp) ?_
 refine T.seq fun K4 hK4 => ?_
 refine T.region ?_
 refine rs rfl rfl (ok_move (.inl rfl)) ?_
 refine ro rfl rfl (ok_call rfl rfl rfl (((take_good l p 1 hn hl).pass [0] (by decide) (by simp) (normR _ _ _) rfl).eq (x' := .fz 1 (ints .u8 [c])) (H'' := [some (R l (p + 1) 0)]) (by rw [hr]; simp [AV.ren, renL_ints]) (pass0 (H := []) _ _ _))) ?_
 refine rs rfl rfl (ok_move (.inr rfl)) ?_
 refine ro_nil ?_
 refine keepK hK4 [0, 3] (by dsimp) (by dsimp) ?_
 refine T.seq fun K5 hK5 => ?_
 refine T.seq fun K6 hK6 => ?_
 refine T.region ?_
 refine rs rfl rfl (ok_move (.inl rfl)) ?_
 refine rs rfl rfl (ok_nilCheck rfl rfl) ?_
 refine rs rfl rfl (ok_fieldAddr rfl ti_pack_Reader rfl rfl ti_api_Errno (by decide) rfl) ?_
 refine rs rfl rfl (ok_load rfl ti_api_Errno rfl rfl) ?_
 refine rs rfl rfl (OpOk.bool (d := false) (ok_binOp rfl ti_api_Errno rfl) (by simp)) ?_
 refine ro_nil ?_
 refine keepK hK6 [0, 3, 12] (by dsimp) (by dsimp) ?_
 refine T.cond_false rfl ?_
 refine T.skip ?_
 refine keepK hK5 [0, 3] (by dsimp) (by dsimp) ?_
 refine T.seq fun K7 hK7 => ?_
 refine T.seq fun K8 hK8 => ?_
 refine T.region ?_
 refine rs rfl rfl (ok_move (.inl rfl)) ?_
 refine rs rfl rfl (by exact ok_index_ints (l := [c]) (y := c) rfl ti_Luint8 rfl ti_uint8 rfl rfl rfl (by omega) rfl) ?_
 refine rs rfl rfl (ok_load rfl ti_uint8 rfl rfl) ?_
 refine rs rfl rfl (ok_binOp rfl ti_uint8 rfl) ?_
 refine ro_nil ?_
 refine keepK hK8 [0, 3, 16] (by dsimp) (by dsimp) ?_
 refine T.cond rfl (fun hc => ?_) (fun hc => ?_) -- cond 1
 ·(try simp only [dE] at hc)
  rw [if_pos hc] at hQ
  refine T.region ?_
  refine rs rfl rfl (ok_move (.inl rfl)) ?_
  refine rs rfl rfl (ok_nilCheck rfl rfl) ?_
  refine rs rfl rfl (ok_fieldAddr rfl ti_pack_Reader rfl rfl ti_api_Errno (by decide) rfl) ?_
  refine rs rfl rfl (ok_store rfl ti_api_Errno (by decide) rfl rfl rfl rfl rfl (by first | exact Nat.le_of_ble_eq_true rfl | simp) (by first | exact .inl ⟨rfl, rfl⟩ | exact .inr rfl)) ?_
  refine ro_nil ?_
  refine keepK hK7 [3] (by dsimp) (by dsimp) ?_
  refine T.seq fun K9 hK9 => ?_
  refine T.region ?_
  refine rs rfl rfl (ok_move (.inl rfl)) ?_
  refine rs rfl rfl (by exact ok_index_ints (l := [c]) (y := c) rfl ti_Luint8 rfl ti_uint8 rfl rfl rfl (by omega) rfl) ?_
  refine rs rfl rfl (ok_load rfl ti_uint8 rfl rfl) ?_
  refine rs rfl rfl (ok_binOp rfl ti_uint8 rfl) ?_
  refine rs rfl rfl (ok_move (.inr rfl)) ?_
  refine ro_nil ?_
  refine keepK hK9 [2] (by dsimp) (by dsimp) ?_
  refine T.ret (hQ _ _ _ rfl ?_).1 -- ret 1
  exact TEnt.toH rfl ⟨rfl, trivial⟩
 ·(try simp only [dE] at hc)
  rw [if_neg hc] at hQ
  refine T.skip ?_
  refine keepK hK7 [3] (by dsimp) (by dsimp) ?_
  refine T.seq fun K10 hK10 => ?_
  refine T.region ?_
  refine rs rfl rfl (ok_move (.inl rfl)) ?_
  refine rs rfl rfl (by exact ok_index_ints (l := [c]) (y := c) rfl ti_Luint8 rfl ti_uint8 rfl rfl rfl (by omega) rfl) ?_
  refine rs rfl rfl (ok_load rfl ti_uint8 rfl rfl) ?_
  refine rs rfl rfl (ok_binOp rfl ti_uint8 rfl) ?_
  refine rs rfl rfl (ok_move (.inr rfl)) ?_
  refine ro_nil ?_
  refine keepK hK10 [2] (by dsimp) (by dsimp) ?_
  refine T.ret (hQ _ _ _ rfl ?_).1 -- ret 2
  exact TEnt.toH rfl ⟨rfl, trivial⟩
theorem err_ok (l : List Int) (p : Nat) (e : Int) : CSpec Tryz.prog 63 [R l p e] [.ref 0 0 0] [some (R l p e)] (.int e) := by
 refine CSpec.body Tryz.func63 rfl rfl rfl rfl rfl fun Q hQ => ?_
 refine T.seq fun K1 hK1 => ?_
 refine T.region ?_
 refine rs rfl rfl (ok_move (.inr rfl)) ?_
 refine ro_nil ?_
 refine keepK hK1 [0] (by dsimp) (by dsimp) ?_
 refine T.seq fun K2 hK2 => ?_
 refine T.seq fun K3 hK3 => ?_
 refine T.region ?_
 refine rs rfl rfl (ok_move (.inl rfl)) ?_
 refine rs rfl rfl (OpOk.bool (d := false) (ok_binOp rfl ti_Ppack_Reader rfl) (rfl)) ?_
 refine ro_nil ?_
 refine keepK hK3 [0, 4] (by dsimp) (by dsimp) ?_
 refine T.cond_false rfl ?_
 refine T.skip ?_
 refine keepK hK2 [0] (by dsimp) (by dsimp) ?_
 refine T.seq fun K4 hK4 => ?_
 refine T.region ?_
 refine rs rfl rfl (ok_move (.inl rfl)) ?_
 refine rs rfl rfl (ok_nilCheck rfl rfl) ?_
 refine rs rfl rfl (ok_fieldAddr rfl ti_pack_Reader rfl rfl ti_api_Errno (by decide) rfl) ?_
 refine rs rfl rfl (ok_load rfl ti_api_Errno rfl rfl) ?_
 refine rs rfl rfl (ok_move (.inr rfl)) ?_
 refine ro_nil ?_
 refine keepK hK4 [2] (by dsimp) (by dsimp) ?_
 refine T.ret (hQ _ _ _ rfl ?_).1 -- ret 1
 exact TEnt.toH rfl ⟨rfl, trivial⟩
theorem left_ok (l : List Int) (p : Nat) (e : Int) (hp : p ≤ l.length) (hl : l.length ≤ 140737488355328) : CSpec Tryz.prog 96 [R l p e] [.ref 0 0 0] [some (R l p e)] (.int ((l.length : Int) - p)) := by
 refine CSpec.body Tryz.func96 rfl rfl rfl rfl rfl fun Q hQ => ?_
 refine T.seq fun K1 hK1 => ?_
 refine T.region ?_
 refine rs rfl rfl (ok_move (.inr rfl)) ?_
 refine ro_nil ?_
 refine keepK hK1 [0] (by dsimp) (by dsimp) ?_
 refine T.seq fun K2 hK2 => ?_
 refine T.seq fun K3 hK3 => ?_
 refine T.region ?_
 refine rs rfl rfl (ok_move (.inl rfl)) ?_
 refine rs rfl rfl (OpOk.bool (d := false) (ok_binOp rfl ti_Ppack_Reader rfl) (rfl)) ?_
 refine ro_nil ?_
 refine keepK hK3 [0, 4] (by dsimp) (by dsimp) ?_
 refine T.cond_false rfl ?_
 refine T.skip ?_
 refine keepK hK2 [0] (by dsimp) (by dsimp) ?_
 refine T.seq fun K4 hK4 => ?_
 refine T.drawH mixed [] ?_
 refine any_take 0 rfl (by first | rfl | decide +kernel) rfl (HeldL.refl _) (fun H' hH => OpOk.step (ok_move (.inl rfl))) ?_
 refine any_take 1 rfl (by first | rfl | decide +kernel) rfl (HeldL.refl _) (fun H' hH => OpOk.step (ok_nilCheck rfl rfl)) ?_
 refine any_take 2 rfl (by first | rfl | decide +kernel) rfl (HeldL.refl _) (fun H' hH => OpOk.step (ok_fieldAddr rfl ti_pack_Reader rfl rfl ti_Luint8 (by decide) rfl)) ?_
 refine any_take 3 rfl (by first | rfl | decide +kernel) rfl (HeldL.refl _) (fun H' hH => OpOk.step (ok_load rfl ti_Luint8 (locA_held hH rfl) rfl)) ?_
 refine any_take 4 rfl (by first | rfl | decide +kernel) rfl (HeldL.refl _) (fun H' hH => OpOk.step ((ok_len rfl rfl ti_Luint8 rfl).eq (x' := .int l.length) (by rw [ints_length]) rfl)) ?_
 refine any_take 5 rfl (by first | rfl | decide +kernel) rfl (HeldL.refl _) (fun H' hH => OpOk.step (ok_move (.inl rfl))) ?_
 refine any_take 6 rfl (by first | rfl | decide +kernel) rfl (HeldL.refl _) (fun H' hH => OpOk.step (ok_nilCheck rfl rfl)) ?_
 refine any_take 7 rfl (by first | rfl | decide +kernel) rfl (HeldL.refl _) (fun H' hH => OpOk.step (ok_fieldAddr rfl ti_pack_Reader rfl rfl ti_int (by decide) rfl)) ?_
 refine any_take 8 rfl (by first | rfl | decide +kernel) rfl (HeldL.refl _) (fun H' hH => OpOk.step (ok_load rfl ti_int (locA_held hH rfl) rfl)) ?_
 refine any_take 9 rfl (by first | rfl | decide +kernel) rfl (HeldL.refl _) (fun H' hH => OpOk.step (ok_sub64 rfl ti_int rfl rfl (by omega) (by omega))) ?_
 refine any_take 10 rfl (by first | rfl | decide +kernel) rfl (HeldL.refl _) (fun H' hH => OpOk.step (ok_move (.inr rfl))) ?_
 refine any_done rfl ?_
 refine keepK hK4 [2] (by dsimp) (by dsimp) ?_
 refine T.ret (hQ _ _ _ rfl ?_).1 -- ret 1
 exact TEnt.toH rfl ⟨rfl, trivial⟩
/-- A number read: the place, the error, the number. -/
def ri (l : List Int) (p : Nat) (e a b : Int) : Nat × Int × Int :=
  if e ≠ 0 then (p, e, 0) else if l.length < p + 8 then (p, 14, 0) else if val8 l p < a ∨ b < val8 l p then (p + 8, 13, 0) else (p + 8, 0, val8 l p)
theorem ri_le {l : List Int} {p : Nat} {e a b : Int} (hp : p ≤ l.length) : (ri l p e a b).1 ≤ l.length := by
  unfold ri
  split
  · exact hp
  · split
    · exact hp
    · split <;> dsimp <;> omega
theorem int_ok (l : List Int) (p : Nat) (e a b : Int) (hB : Bytes l) (hp : p ≤ l.length) (hl : l.length ≤ 140737488355328) : CSpec Tryz.prog 62 [R l p e] [.ref 0 0 0, .int a, .int b] [some (R l (ri l p e a b).1 (ri l p e a b).2.1)] (.int (ri l p e a b).2.2) := by
  unfold ri
  by_cases he : e ≠ 0
  · rw [if_pos he]; exact int_dead l p e a b he
  · rw [if_neg he]
    obtain rfl : e = 0 := by omega
    by_cases hn : l.length < p + 8
    · rw [if_pos hn]; exact int_short l p a b hn hp hl
    · rw [if_neg hn]
      have h := int_good l p a b hB (by omega) hl
      by_cases ho : val8 l p < a ∨ b < val8 l p
      · rw [if_pos ho, if_pos ho] at h; rw [if_pos ho]; exact h
      · rw [if_neg ho, if_neg ho] at h; rw [if_neg ho]; exact h
/-- A truth read. -/
def rf (l : List Int) (p : Nat) (e : Int) : Nat × Int × Bool :=
  if e ≠ 0 then (p, e, false) else match l[p]? with
    | none => (p, 14, false)
    | some c => (p + 1, if 1 < c then 13 else 0, c == 1)
theorem rf_le {l : List Int} {p : Nat} {e : Int} (hp : p ≤ l.length) : (rf l p e).1 ≤ l.length := by
  unfold rf
  split
  · exact hp
  · split
    · exact hp
    · rename_i h; have := (List.getElem?_eq_some_iff.1 h).1; dsimp; omega
theorem flag_ok (l : List Int) (p : Nat) (e : Int) (hp : p ≤ l.length) (hl : l.length ≤ 140737488355328) : CSpec Tryz.prog 114 [R l p e] [.ref 0 0 0] [some (R l (rf l p e).1 (rf l p e).2.1)] (.b (rf l p e).2.2) := by
  unfold rf
  by_cases he : e ≠ 0
  · rw [if_pos he]; exact flag_dead l p e he
  · rw [if_neg he]
    obtain rfl : e = 0 := by omega
    cases h : l[p]? with
    | none => exact flag_short l p (by have := List.getElem?_eq_none_iff.1 h; omega) hp hl
    | some c => exact flag_good l p c h hl
theorem new_ok (l : List Int) (hl : l.length ≤ 140737488355328) : CSpec Tryz.prog 61 [] [.fz 1 (ints .u8 l)] [some (R l 0 0)] (.ref 0 0 0) := by
 refine CSpec.body Tryz.func61 rfl rfl rfl rfl rfl fun Q hQ => ?_
 refine T.seq fun K1 hK1 => ?_
 refine T.region ?_
 refine rs rfl rfl (ok_move (.inr rfl)) ?_
 refine ro_nil ?_
 refine keepK hK1 [0] (by dsimp) (by dsimp) ?_
 refine T.seq fun K2 hK2 => ?_
 refine T.region ?_
 refine rs rfl rfl (ok_move (.inl rfl)) ?_
 refine ro rfl rfl (ok_call rfl rfl rfl ((clone_frz l hl).plain (by simp [renL, AV.ren, renL_ints]) (by simp [AV.ren, renL_ints]))) ?_
 refine rs rfl rfl (ok_build rfl ti_pack_Reader rfl) ?_
 refine rs rfl rfl (ok_box (n := 3) rfl rfl (by decide)) ?_
 refine rs rfl rfl (ok_move (.inr rfl)) ?_
 refine ro_nil ?_
 refine keepK hK2 [2] (by dsimp) (by dsimp) ?_
 refine T.ret (hQ _ _ _ rfl ?_).1 -- ret 1
 exact TEnt.fin [0] (by decide) (by simp) (normR l 0 0) ⟨rfl, trivial⟩
theorem bytes_dead (l : List Int) (p : Nat) (e m : Int) (hB : Bytes l) (hp : p ≤ l.length) (hl : l.length ≤ 140737488355328) (p1 : Nat) (e1 v : Int) (hq : ri l p e 0 m = (p1, e1, v)) (he : e1 ≠ 0) : CSpec Tryz.prog 95 [R l p e] [.ref 0 0 0, .int m] [some (R l p1 e1)] (.fz 1 (ints .u8 [])) := by
 refine CSpec.body Tryz.func95 rfl rfl rfl rfl rfl fun Q hQ => ?_
 refine T.seq fun K1 hK1 => ?_
 refine T.region ?_
 refine rs rfl rfl (ok_move (.inr rfl)) ?_
 refine ro_nil ?_
 refine keepK hK1 [0, 1] (by dsimp) (by dsimp) ?_
 refine T.seq fun K2 hK2 => ?_
 refine T.seq fun K3 hK3 => ?_
 refine T.region ?_
 refine rs rfl rfl (ok_move (.inl rfl)) ?_
 refine rs rfl rfl (OpOk.bool (d := false) (ok_binOp rfl ti_Ppack_Reader rfl) (rfl)) ?_
 refine ro_nil ?_
 refine keepK hK3 [0, 1, 7] (by dsimp) (by dsimp) ?_
 refine T.cond_false rfl ?_
 refine T.skip ?_
 refine keepK hK2 [0, 1] (by dsimp) (by dsimp) ?_
 refine T.seq fun K4 hK4 => ?_
 refine T.region ?_
 refine rs rfl rfl (ok_move (.inl rfl)) ?_
 refine rs rfl rfl (ok_move (.inl rfl)) ?_
 refine ro rfl rfl (ok_call rfl rfl rfl (((int_ok l p e 0 m hB hp hl).pass [0] (by decide) (by simp) (normR _ _ _) rfl).eq (x' := .int v) (H'' := [some (R l p1 e1)]) (by rw [hq]; rfl) (by rw [hq]; exact pass0 (H := []) _ _ _))) ?_
 refine rs rfl rfl (ok_move (.inr rfl)) ?_
 refine ro_nil ?_
 refine keepK hK4 [0, 5] (by dsimp) (by dsimp) ?_
 refine T.seq fun K5 hK5 => ?_
 refine T.region ?_
 refine rs rfl rfl (ok_move (.inl rfl)) ?_
 refine rs rfl rfl (ok_move (.inl rfl)) ?_
 refine ro rfl rfl (ok_call rfl rfl rfl (((take_dead l p1 e1 v he).pass [0] (by decide) (by simp) (normR _ _ _) rfl).eq (x' := .fz 1 (ints .u8 [])) (H'' := [some (R l p1 e1)]) rfl (pass0 (H := []) _ _ _))) ?_
 refine ro rfl rfl (ok_call rfl rfl rfl ((clone_frz [] (by simp)).plain rfl rfl)) ?_
 refine rs rfl rfl (ok_move (.inr rfl)) ?_
 refine ro_nil ?_
 refine keepK hK5 [4] (by dsimp) (by dsimp) ?_
 refine T.ret (hQ _ _ _ rfl ?_).1 -- ret 1
 exact TEnt.fin [0] (by decide) (by simp) (normR l p1 e1) ⟨rfl, trivial⟩
theorem bytes_short (l : List Int) (p : Nat) (e m : Int) (hB : Bytes l) (hp : p ≤ l.length) (hl : l.length ≤ 140737488355328) (p1 n : Nat) (hq : ri l p e 0 m = (p1, 0, (n : Int))) (hp1 : p1 ≤ l.length) (hn : l.length < p1 + n) : CSpec Tryz.prog 95 [R l p e] [.ref 0 0 0, .int m] [some (R l p1 14)] (.fz 1 (ints .u8 [])) := by
 refine CSpec.body Tryz.func95 rfl rfl rfl rfl rfl fun Q hQ => ?_
 refine T.seq fun K1 hK1 => ?_
 refine T.region ?_
 refine rs rfl rfl (ok_move (.inr rfl)) ?_
 refine ro_nil ?_
 refine keepK hK1 [0, 1] (by dsimp) (by dsimp) ?_
 refine T.seq fun K2 hK2 => ?_
 refine T.seq fun K3 hK3 => ?_
 refine T.region ?_
 refine rs rfl rfl (ok_move (.inl rfl)) ?_
 refine rs rfl rfl (OpOk.bool (d := false) (ok_binOp rfl ti_Ppack_Reader rfl) (rfl)) ?_
 refine ro_nil ?_
 refine keepK hK3 [0, 1, 7] (by dsimp) (by dsimp) ?_
 refine T.cond_false rfl ?_
 refine T.skip ?_
 refine keepK hK2 [0, 1] (by dsimp) (by dsimp) ?_
 refine T.seq fun K4 hK4 => ?_
 refine T.region ?_
 refine rs rfl rfl (ok_move (.inl rfl)) ?_
 refine rs rfl rfl (ok_move (.inl rfl)) ?_
 refine ro rfl rfl (ok_call rfl rfl rfl (((int_ok l p e 0 m hB hp hl).pass [0] (by decide) (by simp) (normR _ _ _) rfl).eq (x' := .int n) (H'' := [some (R l p1 0)]) (by rw [hq]; rfl) (by rw [hq]; exact pass0 (H := []) _ _ _))) ?_
 refine rs rfl rfl (ok_move (.inr rfl)) ?_
 refine ro_nil ?_
 refine keepK hK4 [0, 5] (by dsimp) (by dsimp) ?_
 refine T.seq fun K5 hK5 => ?_
 refine T.region ?_
 refine rs rfl rfl (ok_move (.inl rfl)) ?_
 refine rs rfl rfl (ok_move (.inl rfl)) ?_
 refine ro rfl rfl (ok_call rfl rfl rfl (((take_short l p1 n hn hp1 hl).pass [0] (by decide) (by simp) (normR _ _ _) rfl).eq (x' := .fz 1 (ints .u8 [])) (H'' := [some (R l p1 14)]) rfl (pass0 (H := []) _ _ _))) ?_
 refine ro rfl rfl (ok_call rfl rfl rfl ((clone_frz [] (by simp)).plain rfl rfl)) ?_
 refine rs rfl rfl (ok_move (.inr rfl)) ?_
 refine ro_nil ?_
 refine keepK hK5 [4] (by dsimp) (by dsimp) ?_
 refine T.ret (hQ _ _ _ rfl ?_).1 -- ret 1
 exact TEnt.fin [0] (by decide) (by simp) (normR l p1 14) ⟨rfl, trivial⟩
theorem bytes_good (l : List Int) (p : Nat) (e m : Int) (hB : Bytes l) (hp : p ≤ l.length) (hl : l.length ≤ 140737488355328) (p1 n : Nat) (hq : ri l p e 0 m = (p1, 0, (n : Int))) (hn : p1 + n ≤ l.length) : CSpec Tryz.prog 95 [R l p e] [.ref 0 0 0, .int m] [some (R l (p1 + n) 0)] (.fz 1 (ints .u8 ((l.drop p1).take n))) := by
 refine CSpec.body Tryz.func95 rfl rfl rfl rfl rfl fun Q hQ => ?_
 refine T.seq fun K1 hK1 => ?_
 refine T.region ?_
 refine rs rfl rfl (ok_move (.inr rfl)) ?_
 refine ro_nil ?_
 refine keepK hK1 [0, 1] (by dsimp) (by dsimp) ?_
 refine T.seq fun K2 hK2 => ?_
 refine T.seq fun K3 hK3 => ?_
 refine T.region ?_
 refine rs rfl rfl (ok_move (.inl rfl)) ?_
 refine rs rfl rfl (OpOk.bool (d := false) (ok_binOp rfl ti_Ppack_Reader rfl) (rfl)) ?_
 refine ro_nil ?_
 refine keepK hK3 [0, 1, 7] (by dsimp) (by dsimp) ?_
 refine T.cond_false rfl ?_
 refine T.skip ?_
 refine keepK hK2 [0, 1] (by dsimp) (by dsimp) ?_
 refine T.seq fun K4 hK4 => ?_
 refine T.region ?_
 refine rs rfl rfl (ok_move (.inl rfl)) ?_
 refine rs rfl rfl (ok_move (.inl rfl)) ?_
 refine ro rfl rfl (ok_call rfl rfl rfl (((int_ok l p e 0 m hB hp hl).pass [0] (by decide) (by simp) (normR _ _ _) rfl).eq (x' := .int n) (H'' := [some (R l p1 0)]) (by rw [hq]; rfl) (by rw [hq]; exact pass0 (H := []) _ _ _))) ?_
 refine rs rfl rfl (ok_move (.inr rfl)) ?_
 refine ro_nil ?_
 refine keepK hK4 [0, 5] (by dsimp) (by dsimp) ?_
 refine T.seq fun K5 hK5 => ?_
 refine T.region ?_
 refine rs rfl rfl (ok_move (.inl rfl)) ?_
 refine rs rfl rfl (ok_move (.inl rfl)) ?_
 refine ro rfl rfl (ok_call rfl rfl rfl (((take_good l p1 n hn hl).pass [0] (by decide) (by simp) (normR _ _ _) rfl).eq (x' := .fz 1 (ints .u8 ((l.drop p1).take n))) (H'' := [some (R l (p1 + n) 0)]) (by simp [AV.ren, renL_ints]) (pass0 (H := []) _ _ _))) ?_
 refine ro rfl rfl (ok_call rfl rfl rfl ((clone_frz ((l.drop p1).take n) (by simp; omega)).plain (by simp [renL, AV.ren, renL_ints]) (by simp [AV.ren, renL_ints]))) ?_
 refine rs rfl rfl (ok_move (.inr rfl)) ?_
 refine ro_nil ?_
 refine keepK hK5 [4] (by dsimp) (by dsimp) ?_
 refine T.ret (hQ _ _ _ rfl ?_).1 -- ret 1
 exact TEnt.fin [0] (by decide) (by simp) (normR l (p1 + n) 0) ⟨by simp [tupA, AV.ren, renL_ints], trivial⟩

def enc (v : Int) (i : Nat) : List Int := (List.range i).map fun j => IntKind.u8.wrap (v / 2 ^ (8 * j))
theorem enc_len (v : Int) (i : Nat) : (enc v i).length = i := by simp [enc]
theorem enc_succ (v : Int) (i : Nat) : enc v i ++ [IntKind.u8.wrap (v / 2 ^ (8 * i))] = enc v (i + 1) := by simp [enc, List.range_succ]
attribute [local simp] enc_len
theorem pkint_new (l : List Int) (v : Int) (hl : l.length ≤ 1000000) : CSpec Tryz.prog 37 [] [.fz 1 (ints .u8 l), .int v] [some ⟨1, true, ints .u8 (l ++ enc v 8)⟩] (.sl 0 0 (l ++ enc v 8).length) := by
 refine CSpec.body Tryz.func37 rfl rfl rfl rfl rfl fun Q hQ => ?_
 refine T.seq fun K1 hK1 => ?_
 refine T.region ?_
 refine rs rfl rfl (ok_move (.inr rfl)) ?_
 refine ro_nil ?_
 refine keepK hK1 [0, 1] (by dsimp) (by dsimp) ?_
 refine T.seq fun K2 hK2 => ?_
 refine T.region ?_
 refine rs rfl rfl (ok_move (.inl rfl)) ?_
 refine ro rfl rfl (ok_call rfl rfl rfl ((clone_new l (by omega)).fresh (x' := .sl 0 0 l.length) (H' := [some ⟨1, true, ints .u8 l⟩]) (by simp [renL, AV.ren, renL_ints]) rfl (by simp [renH, Blk.ren, renL_ints]))) ?_
 refine rs rfl rfl (ok_move (.inr rfl)) ?_
 refine ro_nil ?_
 refine keepK hK2 [1, 5] (by dsimp) (by dsimp) ?_
 refine T.seq fun K3 hK3 => ?_
 refine T.seq fun K4 hK4 => ?_
 refine T.region ?_
 refine rs rfl rfl (ok_move (.inl rfl)) ?_
 refine ro_nil ?_
 refine keepK hK4 [1, 5, 9] (by dsimp) (by dsimp) ?_
 refine T.block ?_
 refine T.loopI (ι := Nat) (fun i => i ≤ 8) (fun i => 8 - i) (fun i => ([(1, .int v), (5, .sl 0 0 (l ++ enc v i).length), (9, .int i)], [some ⟨1, true, ints .u8 (l ++ enc v i)⟩])) 0 (Nat.zero_le _) (TEnt.toH (by simp [enc]) ⟨rfl, by simp [enc], rfl, trivial⟩) (fun i hi => ?_) -- loop 1
 refine T.seq fun K5 hK5 => ?_
 refine T.region ?_
 refine rs rfl rfl (ok_binOp rfl ti_int rfl) ?_
 refine ro_nil ?_
 refine keepK hK5 [1, 5, 9, 10] (by dsimp) (by dsimp) ?_
 refine T.seq fun K6 hK6 => ?_
 refine T.cond rfl (fun hc => ?_) (fun hc => ?_) -- cond 1
 ·(try simp only [dE] at hc)
  refine T.skip ?_
  refine keepK hK6 [1, 5, 9] (by dsimp) (by dsimp) ?_
  refine T.seq fun K7 hK7 => ?_
  refine T.block ?_
  refine T.seq fun K8 hK8 => ?_
  refine T.region ?_
  refine rs rfl rfl (ok_move (.inl rfl)) ?_
  refine rs rfl rfl (ok_move (.inr rfl)) ?_
  refine ro_nil ?_
  refine keepK hK8 [1, 5, 6, 9] (by dsimp) (by dsimp) ?_
  refine T.region ?_
  refine rs rfl rfl (ok_move (.inl rfl)) ?_
  refine rs rfl rfl (ok_move (.inl rfl)) ?_
  refine rs rfl rfl (ok_move (.inl rfl)) ?_
  refine rs rfl rfl ((ok_mul64 rfl ti_int rfl rfl (by omega) (by omega)).eq (x' := .int (8 * i : Nat)) rfl rfl) ?_
  refine rs rfl rfl (ok_shr rfl ti_int (8 * i) rfl rfl (by show 8 * i ≤ 64; omega) rfl) ?_
  refine rs rfl rfl (ok_conv_int rfl ti_int ti_uint8 rfl rfl) ?_
  refine rs rfl rfl (ok_buildSlice (n := 1) (ps := #[(0, .tmp 17)]) rfl ti_Luint8 rfl ti_uint8 (by decide) rfl rfl (by decide) rfl rfl rfl) ?_
  refine rs rfl rfl (by exact ok_append_ints (k := .u8) (xs := l ++ enc v i) (ys := [IntKind.u8.wrap (v / 2 ^ (8 * i))]) rfl ti_Luint8 rfl ti_uint8 rfl (by decide) rfl ti_Luint8 (by simp) rfl rfl rfl rfl rfl rfl rfl rfl rfl (by simp <;> omega)) ?_
  refine rs rfl rfl (ok_move (.inr rfl)) ?_
  refine ro_nil ?_
  refine keepK hK7 [1, 5, 9] (by dsimp) (by dsimp) ?_
  refine T.region ?_
  refine rs rfl rfl (ok_add64 rfl ti_int rfl rfl (by omega) (by omega)) ?_
  refine rs rfl rfl (ok_move (.inl rfl)) ?_
  refine ro_nil ?_
  exact ⟨i + 1, by omega, by omega, TEnt.fin [2] (by decide) (by simp) (by rw [← enc_succ, List.append_assoc]; simp [normH, hget, Blk.ren, renL_ints]) ⟨rfl, by rw [← enc_succ, List.append_assoc]; rfl, rfl, trivial⟩⟩
 ·(try simp only [dE] at hc)
  have hin : i = 8 := by omega
  subst hin
  refine T.exit ?_
  refine keepK hK3 [5] (by dsimp) (by dsimp) ?_
  refine T.seq fun K9 hK9 => ?_
  refine T.region ?_
  refine rs rfl rfl (ok_move (.inl rfl)) ?_
  refine rs rfl rfl (ok_move (.inr rfl)) ?_
  refine ro_nil ?_
  refine keepK hK9 [4] (by dsimp) (by dsimp) ?_
  refine T.ret (hQ _ _ _ rfl ?_).1 -- ret 1
  exact TEnt.fin [0] (by decide) (by simp) (by simp [normH, hget, Blk.ren, renL_ints]) ⟨rfl, trivial⟩
/-- A row of bytes read. -/
def rb (l : List Int) (p : Nat) (e m : Int) : Nat × Int × List Int :=
  if (ri l p e 0 m).2.1 ≠ 0 then ((ri l p e 0 m).1, (ri l p e 0 m).2.1, []) else if l.length < (ri l p e 0 m).1 + (ri l p e 0 m).2.2.toNat then ((ri l p e 0 m).1, 14, []) else ((ri l p e 0 m).1 + (ri l p e 0 m).2.2.toNat, 0, (l.drop (ri l p e 0 m).1).take (ri l p e 0 m).2.2.toNat)
theorem ri_pos {l : List Int} {p : Nat} {e m : Int} : 0 ≤ (ri l p e 0 m).2.2 := by
  unfold ri
  split
  · exact Int.le_refl 0
  · split
    · exact Int.le_refl 0
    · split
      · exact Int.le_refl 0
      · dsimp; omega
theorem rb_le {l : List Int} {p : Nat} {e m : Int} (hp : p ≤ l.length) : (rb l p e m).1 ≤ l.length := by
  have := ri_le (e := e) (a := 0) (b := m) hp
  unfold rb
  split
  · exact this
  · split
    · exact this
    · dsimp; omega
theorem bytes_ok (l : List Int) (p : Nat) (e m : Int) (hB : Bytes l) (hp : p ≤ l.length) (hl : l.length ≤ 140737488355328) : CSpec Tryz.prog 95 [R l p e] [.ref 0 0 0, .int m] [some (R l (rb l p e m).1 (rb l p e m).2.1)] (.fz 1 (ints .u8 (rb l p e m).2.2)) := by
  have h0 := ri_pos (l := l) (p := p) (e := e) (m := m)
  have h1 := ri_le (e := e) (a := 0) (b := m) hp
  unfold rb
  obtain ⟨⟨p1, e1, v⟩, hq⟩ : ∃ q, ri l p e 0 m = q := ⟨_, rfl⟩
  rw [hq] at h0 h1 ⊢
  dsimp only at h0 h1 ⊢
  by_cases he : e1 ≠ 0
  · rw [if_pos he]; exact bytes_dead l p e m hB hp hl p1 e1 v hq he
  · rw [if_neg he]
    obtain rfl : e1 = 0 := by omega
    obtain ⟨n, rfl⟩ := Int.eq_ofNat_of_zero_le h0
    by_cases hn : l.length < p1 + (n : Int).toNat
    · rw [if_pos hn]; exact bytes_short l p e m hB hp hl p1 n hq h1 hn
    · rw [if_neg hn]; exact bytes_good l p e m hB hp hl p1 n hq (by simpa using hn)
end Go.Proofs.YtjklgbafnfoolaaGreat.AmF
namespace Go.Proofs.YtjklgbafnfoolaaGreat.AmF
open Go Go.AM
set_option maxRecDepth 100000
set_option linter.unusedSimpArgs false
set_option linter.unusedVariables false
attribute [local simp] tkeep tget tput ev cav argsTM pickA normT putA splice AV.cells ints_length rowsA_length enc_len
def I64 (v : Int) : Prop := -9223372036854775808 ≤ v ∧ v ≤ 9223372036854775807
theorem enc_get (v : Int) (n i : Nat) (h : i < n) : (enc v n).getD i 0 = v / 2 ^ (8 * i) % 256 := by
  rw [List.getD_eq_getElem?_getD]
  simp [enc, h, wrap_u8]
theorem num_enc (v : Int) (n : Nat) : ∀ i, i ≤ n → (num (enc v n) i : Int) = v % 2 ^ (8 * i)
  | 0, _ => by simp [num, Int.emod_one]
  | i + 1, h => by
    have ih := num_enc v n i (by omega)
    have hg := enc_get v n i (by omega)
    have hA : (0 : Int) < 2 ^ (8 * i) := Int.pow_pos (by decide)
    have hs := emod_step v (2 ^ (8 * i)) hA
    have he : (2 : Int) ^ (8 * (i + 1)) = 2 ^ (8 * i) * 256 := by rw [Nat.mul_add, Int.pow_add, show (2 : Int) ^ (8 * 1) = 256 from by decide]
    have h0 := Int.emod_nonneg (v / 2 ^ (8 * i)) (show (256 : Int) ≠ 0 by decide)
    simp only [num, hg, he, hs]
    rw [Int.natCast_add, Int.natCast_mul, ih, Int.toNat_of_nonneg h0, Int.natCast_pow]
    exact Int.add_comm _ _
theorem enc_bytes (v : Int) (n : Nat) : Bytes (enc v n) := by
  intro x hx
  simp only [enc, List.mem_map] at hx
  obtain ⟨i, _, rfl⟩ := hx
  rw [wrap_u8]
  omega
theorem val8_enc {l a b : List Int} {v : Int} (hl : l = a ++ (enc v 8 ++ b)) (hv : I64 v) : val8 l a.length = v := by
  unfold val8
  subst hl
  rw [List.drop_left, List.take_left' (enc_len v 8), num_enc v 8 8 (Nat.le_refl _)]
  have he : (2 : Int) ^ (8 * 8) = 18446744073709551616 := by decide
  rw [he]
  obtain ⟨h1, h2⟩ := hv
  simp [IntKind.wrap, IntKind.bits, IntKind.signed]
  split <;> omega
theorem ri_enc {l a b : List Int} {v lo hi : Int} {p : Nat} (hp : p = a.length) (hl : l = a ++ (enc v 8 ++ b)) (hv : I64 v) : ri l p 0 lo hi = (p + 8, if v < lo ∨ hi < v then 13 else 0, if v < lo ∨ hi < v then 0 else v) := by
  have h8 := val8_enc hl hv
  rw [← hp] at h8
  have hlen : ¬ l.length < p + 8 := by rw [hl, hp]; simp
  unfold ri
  rw [if_neg (by simp), if_neg hlen, h8]
  by_cases h : v < lo ∨ hi < v
  · rw [if_pos h, if_pos h, if_pos h]
  · rw [if_neg h, if_neg h, if_neg h]
theorem rb_enc {l a b x : List Int} {m : Int} {p : Nat} (hp : p = a.length) (hl : l = a ++ (enc x.length 8 ++ (x ++ b))) (hx : (x.length : Int) ≤ m) (hx' : x.length ≤ 140737488355328) : rb l p 0 m = (p + 8 + x.length, 0, x) := by
  have h := ri_enc (lo := 0) (hi := m) hp hl (v := x.length) ⟨by omega, by omega⟩
  have hc : ¬ ((x.length : Int) < 0 ∨ m < (x.length : Int)) := by omega
  rw [if_neg hc, if_neg hc] at h
  unfold rb
  rw [h]
  have hlen : ¬ l.length < p + 8 + ((x.length : Nat) : Int).toNat := by rw [hl, hp]; simp; omega
  dsimp only
  rw [if_neg (by simp), if_neg hlen]
  have hd : l.drop (p + 8) = x ++ b := by
    rw [hl, ← List.append_assoc]
    exact List.drop_left' (by simp [hp])
  rw [hd]
  simp
theorem rf_enc {l a b : List Int} {c : Int} {p : Nat} (hp : p = a.length) (hl : l = a ++ (c :: b)) : rf l p 0 = (p + 1, if 1 < c then 13 else 0, c == 1) := by
  unfold rf
  have : l[p]? = some c := by rw [hl, hp]; simp
  simp [this]
theorem pkint_frz {l r : List Int} {v : Int} (hr : l ++ enc v 8 = r) (hl : l.length ≤ 1000000) : CSpec Tryz.prog 37 [] [.fz 1 (ints .u8 l), .int v] [] (.fz 1 (ints .u8 r)) := hr ▸ (pkint_new l v hl).frz (by simp) (renL_ints _ _ _)
theorem pkbytes_new (l x : List Int) (hl : l.length ≤ 1000000) (hx : x.length ≤ 1048576) : CSpec Tryz.prog 40 [] [.fz 1 (ints .u8 l), .fz 1 (ints .u8 x)] [some ⟨1, true, ints .u8 ((l ++ enc x.length 8) ++ x)⟩] (.sl 0 0 ((l ++ enc x.length 8) ++ x).length) := by
 refine CSpec.body Tryz.func40 rfl rfl rfl rfl rfl fun Q hQ => ?_
 refine T.seq fun K1 hK1 => ?_
 refine T.region ?_
 refine rs rfl rfl (ok_move (.inr rfl)) ?_
 refine ro_nil ?_
 refine keepK hK1 [0, 1] (by dsimp) (by dsimp) ?_
 refine T.seq fun K2 hK2 => ?_
 refine T.region ?_
 refine rs rfl rfl (ok_move (.inl rfl)) ?_
 refine rs rfl rfl (ok_move (.inl rfl)) ?_
 refine rs rfl rfl (ok_len' rfl rfl ti_Luint8 rfl (by first | exact ints_length _ _ | exact rowsA_length _ _ | exact Cms_len _ | exact mapLen _ | rfl)) ?_
 refine ro rfl rfl (ok_call rfl rfl rfl ((pkint_new l x.length (by omega)).fresh (x' := .sl 0 0 (l ++ enc x.length 8).length) (H' := [some ⟨1, true, ints .u8 (l ++ enc x.length 8)⟩]) (by simp [renL, AV.ren, renL_ints]) rfl (by simp [renH, Blk.ren, renL_ints]))) ?_
 refine rs rfl rfl (ok_move (.inl rfl)) ?_
 refine rs rfl rfl (by exact ok_append_ints (k := .u8) (xs := l ++ enc x.length 8) (ys := x) rfl ti_Luint8 rfl ti_uint8 rfl (by decide) rfl ti_Luint8 (by simp) rfl rfl rfl rfl rfl rfl rfl rfl rfl (by simp <;> omega)) ?_
 refine rs rfl rfl (ok_move (.inr rfl)) ?_
 refine ro_nil ?_
 refine keepK hK2 [4] (by dsimp) (by dsimp) ?_
 refine T.ret (hQ _ _ _ rfl ?_).1 -- ret 1
 exact TEnt.fin [1] (by decide) (by simp) (by simp [normH, hget, Blk.ren, renL_ints]) ⟨rfl, trivial⟩
theorem pkflag_new (l : List Int) (is : Bool) (hl : l.length ≤ 1000000) : CSpec Tryz.prog 39 [] [.fz 1 (ints .u8 l), .b is] [some ⟨1, true, ints .u8 (l ++ [if is = true then 1 else 0])⟩] (.sl 0 0 (l ++ [if is = true then (1 : Int) else 0]).length) := by
 refine CSpec.body Tryz.func39 rfl rfl rfl rfl rfl fun Q hQ => ?_
 refine T.seq fun K1 hK1 => ?_
 refine T.region ?_
 refine rs rfl rfl (ok_move (.inr rfl)) ?_
 refine ro_nil ?_
 refine keepK hK1 [0, 1] (by dsimp) (by dsimp) ?_
 refine T.seq fun K2 hK2 => ?_
 refine T.region ?_
 refine rs rfl rfl (ok_move (.inr rfl)) ?_
 refine ro_nil ?_
 refine keepK hK2 [0, 1, 5] (by dsimp) (by dsimp) ?_
 refine T.seq fun K3 hK3 => ?_
 refine T.seq fun K4 hK4 => ?_
 refine T.region ?_
 refine rs rfl rfl (ok_move (.inl rfl)) ?_
 refine ro_nil ?_
 refine keepK hK4 [0, 5, 6] (by dsimp) (by dsimp) ?_
 refine T.cond rfl (fun hc => ?_) (fun hc => ?_) -- cond 1
 ·(try simp only [dE] at hc)
  subst hc
  refine T.region ?_
  refine rs rfl rfl (ok_move (.inr rfl)) ?_
  refine ro_nil ?_
  refine keepK hK3 [0, 5] (by dsimp) (by dsimp) ?_
  refine T.seq fun K5 hK5 => ?_
  refine T.region ?_
  refine rs rfl rfl (ok_move (.inl rfl)) ?_
  refine ro rfl rfl (ok_call rfl rfl rfl ((clone_new l (by omega)).fresh (x' := .sl 0 0 l.length) (H' := [some ⟨1, true, ints .u8 l⟩]) (by simp [renL, AV.ren, renL_ints]) rfl (by simp [renH, Blk.ren, renL_ints]))) ?_
  refine rs rfl rfl (ok_move (.inl rfl)) ?_
  refine rs rfl rfl (ok_buildSlice (n := 1) (ps := #[(0, .tmp 9)]) rfl ti_Luint8 rfl ti_uint8 (by decide) rfl rfl (by decide) rfl rfl rfl) ?_
  refine rs rfl rfl (by exact ok_append_ints (k := .u8) (xs := l) (ys := [_]) rfl ti_Luint8 rfl ti_uint8 rfl (by decide) rfl ti_Luint8 (by simp) rfl rfl rfl rfl rfl rfl rfl rfl rfl (by simp <;> omega)) ?_
  refine rs rfl rfl (ok_move (.inr rfl)) ?_
  refine ro_nil ?_
  refine keepK hK5 [4] (by dsimp) (by dsimp) ?_
  refine T.ret (hQ _ _ _ rfl ?_).1 -- ret 1
  exact TEnt.fin [2] (by decide) (by simp) (by simp [normH, hget, Blk.ren, renL_ints]) ⟨rfl, trivial⟩
 ·(try simp only [dE] at hc)
  subst hc
  refine T.skip ?_
  refine keepK hK3 [0, 5] (by dsimp) (by dsimp) ?_
  refine T.seq fun K6 hK6 => ?_
  refine T.region ?_
  refine rs rfl rfl (ok_move (.inl rfl)) ?_
  refine ro rfl rfl (ok_call rfl rfl rfl ((clone_new l (by omega)).fresh (x' := .sl 0 0 l.length) (H' := [some ⟨1, true, ints .u8 l⟩]) (by simp [renL, AV.ren, renL_ints]) rfl (by simp [renH, Blk.ren, renL_ints]))) ?_
  refine rs rfl rfl (ok_move (.inl rfl)) ?_
  refine rs rfl rfl (ok_buildSlice (n := 1) (ps := #[(0, .tmp 9)]) rfl ti_Luint8 rfl ti_uint8 (by decide) rfl rfl (by decide) rfl rfl rfl) ?_
  refine rs rfl rfl (by exact ok_append_ints (k := .u8) (xs := l) (ys := [_]) rfl ti_Luint8 rfl ti_uint8 rfl (by decide) rfl ti_Luint8 (by simp) rfl rfl rfl rfl rfl rfl rfl rfl rfl (by simp <;> omega)) ?_
  refine rs rfl rfl (ok_move (.inr rfl)) ?_
  refine ro_nil ?_
  refine keepK hK6 [4] (by dsimp) (by dsimp) ?_
  refine T.ret (hQ _ _ _ rfl ?_).1 -- ret 2
  exact TEnt.fin [2] (by decide) (by simp) (by simp [normH, hget, Blk.ren, renL_ints]) ⟨rfl, trivial⟩
theorem pkbytes_frz {l x r : List Int} (hr : (l ++ enc x.length 8) ++ x = r) (hl : l.length ≤ 1000000) (hx : x.length ≤ 1048576) : CSpec Tryz.prog 40 [] [.fz 1 (ints .u8 l), .fz 1 (ints .u8 x)] [] (.fz 1 (ints .u8 r)) := hr ▸ (pkbytes_new l x hl hx).frz (by simp) (renL_ints _ _ _)
theorem pkflag_frz {l r : List Int} {is : Bool} (hr : l ++ [if is = true then 1 else 0] = r) (hl : l.length ≤ 1000000) : CSpec Tryz.prog 39 [] [.fz 1 (ints .u8 l), .b is] [] (.fz 1 (ints .u8 r)) := hr ▸ (pkflag_new l is hl).frz (by simp) (renL_ints _ _ _)
end Go.Proofs.YtjklgbafnfoolaaGreat.AmF
namespace Go.Proofs.YtjklgbafnfoolaaGreat.AmF
open Go Go.AM
set_option maxRecDepth 100000
set_option linter.unusedSimpArgs false
set_option linter.unusedVariables false
attribute [local simp] tkeep tget tput ev cav argsTM pickA normT putA splice AV.cells ints_length
theorem eqLeafs_ints (k : IntKind) : ∀ (a b : List Int), a.length = b.length → eqLeafs (ints k a) (ints k b) = some (decide (a = b))
  | [], [], _ => by simp [ints, eqLeafs]
  | x :: a, y :: b, h => by
    have ih := eqLeafs_ints k a b (by simpa using h)
    simp only [ints, List.map_cons, eqLeafs, eqLeaf, if_true, Option.bind_some] at ih ⊢
    rw [ih]
    simp only [Option.map_some, Option.some.injEq]
    by_cases h1 : x = y
    · subst h1; simp
    · simp [h1]
theorem Cf.l_inj {c d : Cf} : c.l = d.l ↔ c = d := by
  cases c; cases d; simp [Cf.l]
theorem und_of {P : Program} {t : TypeId} {i : TI} {d : TypeDesc} (hi : tyI P t = some i) (hd : i.desc = d) : P.underlying t = some d := by
  subst hd
  unfold tyI at hi
  obtain ⟨ti, h1, h⟩ := Option.bind_eq_some_iff.1 hi
  obtain ⟨d, h2, h⟩ := Option.bind_eq_some_iff.1 h
  obtain ⟨z, h3, h⟩ := Option.map_eq_some_iff.1 h
  subst h
  exact h2
theorem eq_conf {tm : TM} {H : Heap} {o : Oper} {op : BinOp} {t' : TypeId} {p q : Operand} {c d : Cf} (ho : o.op = .binOp op 23 p q t') (hop : op = .eql ∨ op = .neq) (hp : ev tm p = .agg (CC c)) (hq : ev tm q = .agg (CC d)) :
    OpOk Tryz.prog tm H o (.b (if op = .eql then decide (c = d) else !decide (c = d))) H := by
  refine ok_eqS ho (und_of ti_api_Conf rfl) (by kernel_rfl) (by kernel_rfl) hop (l := CC c) (m := CC d) (by rw [hp]; rfl) (by rw [hq]; rfl) rfl ?_
  have := eqLeafs_ints .i64 c.l d.l rfl
  rw [CC, CC, this]
  congr 1
  rw [decide_eq_decide]
  exact Cf.l_inj
abbrev Cf11 := Int × Int × Int × Int × Int × Int × Int × Int × Int × Int × Int
def cfOf (a : Cf11) : Cf := ⟨a.1, a.2.1, a.2.2.1, a.2.2.2.1, a.2.2.2.2.1, a.2.2.2.2.2.1, a.2.2.2.2.2.2.1, a.2.2.2.2.2.2.2.1, a.2.2.2.2.2.2.2.2.1, a.2.2.2.2.2.2.2.2.2.1, a.2.2.2.2.2.2.2.2.2.2⟩
end Go.Proofs.YtjklgbafnfoolaaGreat.AmF
namespace Go.Proofs.YtjklgbafnfoolaaGreat.AmF
open Go Go.AM
set_option maxRecDepth 100000
set_option linter.unusedSimpArgs false
set_option linter.unusedVariables false
attribute [local simp] tkeep tget tput ev cav argsTM pickA normT putA splice AV.cells ints_length rowsA_length enc_len
theorem pow_split (i : Nat) (h : i < 8) : (18446744073709551616 : Int) = 2 ^ (8 * i) * (256 * 2 ^ (8 * (7 - i))) := by
  match i, h with
  | 0, _ | 1, _ | 2, _ | 3, _ | 4, _ | 5, _ | 6, _ | 7, _ => decide
/-- A byte of a number of 64 bits. -/
theorem byte_u64 (v : Int) (i : Nat) (h : i < 8) : v % 18446744073709551616 / 2 ^ (8 * i) % 256 = v / 2 ^ (8 * i) % 256 := by
  have hA : (0 : Int) < 2 ^ (8 * i) := Int.pow_pos (by decide)
  have h1 := Int.mul_ediv_add_emod v 18446744073709551616
  generalize v / 18446744073709551616 = q at h1
  generalize v % 18446744073709551616 = r at h1 ⊢
  have hs := pow_split i h
  generalize (2 : Int) ^ (8 * (7 - i)) = B at hs
  have h2 : v = r + 2 ^ (8 * i) * (256 * B * q) := by
    rw [← h1, hs, Int.add_comm, Int.mul_assoc]
  rw [h2, Int.add_mul_ediv_left _ _ (by omega), Int.mul_assoc, Int.add_mul_emod_self_left]
theorem div_step (V : Nat) (i : Nat) : V / 2 ^ (8 * (i + 1)) = V / 2 ^ (8 * i) / 256 := by
  rw [Nat.mul_add, Nat.pow_add, Nat.div_div_eq_div_mul]
theorem rint_new (v : Int) : CSpec Tryz.prog 49 [] [.int v] [some ⟨1, true, ints .u8 (enc v 8)⟩] (.sl 0 0 8) := by
 obtain ⟨V, hV⟩ : ∃ V : Nat, v % 18446744073709551616 = V := Int.eq_ofNat_of_zero_le (Int.emod_nonneg _ (by decide))
 have hlt : V < 18446744073709551616 := by omega
 obtain ⟨D, hD⟩ : ∃ D : Nat → Nat, ∀ k, D k = V / 2 ^ (8 * k) := ⟨fun k => V / 2 ^ (8 * k), fun _ => rfl⟩
 have hDle : ∀ k, D k ≤ V := fun k => by rw [hD]; exact Nat.div_le_self _ _
 refine CSpec.body Tryz.func49 rfl rfl rfl rfl rfl fun Q hQ => ?_
 refine T.seq fun K1 hK1 => ?_
 refine T.region ?_
 refine rs rfl rfl (ok_move (.inr rfl)) ?_
 refine ro_nil ?_
 refine keepK hK1 [0] (by dsimp) (by dsimp) ?_
 refine T.seq fun K2 hK2 => ?_
 refine T.region ?_
 refine rs rfl rfl (ok_move (.inr rfl)) ?_
 refine ro_nil ?_
 refine keepK hK2 [0, 3] (by dsimp) (by dsimp) ?_
 refine T.seq fun K3 hK3 => ?_
 refine T.region ?_
 refine rs rfl rfl (ok_move (.inl rfl)) ?_
 refine rs rfl rfl ((ok_conv_int rfl ti_int ti_uint64 rfl rfl).eq (x' := .v (.int .u64 (D 0))) (by rw [wrap_u64, hV, hD]; simp) rfl) ?_
 refine rs rfl rfl (ok_move (.inr rfl)) ?_
 refine ro_nil ?_
 refine keepK hK3 [3, 4] (by dsimp) (by dsimp) ?_
 refine T.seq fun K4 hK4 => ?_
 refine T.seq fun K5 hK5 => ?_
 refine T.region ?_
 refine rs rfl rfl (ok_move (.inr rfl)) ?_
 refine ro_nil ?_
 refine keepK hK5 [3, 4, 5] (by dsimp) (by dsimp) ?_
 refine T.block ?_
 refine T.loopI (ι := Nat) (fun i => i ≤ 8) (fun i => 8 - i) (fun i => ([(3, .sl 0 0 (enc v i).length), (4, .v (.int .u64 (D i))), (5, .int i)], [some ⟨1, true, ints .u8 (enc v i)⟩])) 0 (Nat.zero_le _) ((TEnt.empty 3 1 (by decide) (.inr rfl)).trans (TEnt.fin [0] (by decide) (by simp) rfl ⟨rfl, rfl, rfl, trivial⟩)) (fun i hi => ?_) -- loop 1
 refine T.seq fun K6 hK6 => ?_
 refine T.seq fun K7 hK7 => ?_
 refine T.region ?_
 refine rs rfl rfl (ok_move (.inl rfl)) ?_
 refine rs rfl rfl (ok_binOp rfl ti_int rfl) ?_
 refine ro_nil ?_
 refine keepK hK7 [3, 4, 5, 9] (by dsimp) (by dsimp) ?_
 refine T.cond rfl (fun hc => ?_) (fun hc => ?_) -- cond 1
 ·(try simp only [dE] at hc)
  have hi8 : i < 8 := by omega
  have hb := byte_u64 v i hi8
  rw [hV] at hb
  have hb' : ((D i % 256 : Nat) : Int) = v / 2 ^ (8 * i) % 256 := by rw [← hb, hD]; simp
  have hd' := hDle i
  have hds := div_step V i
  rw [← hD, ← hD] at hds
  refine T.skip ?_
  refine keepK hK6 [3, 4, 5] (by dsimp) (by dsimp) ?_
  refine T.seq fun K8 hK8 => ?_
  refine T.block ?_
  refine T.seq fun K9 hK9 => ?_
  refine T.region ?_
  refine rs rfl rfl (ok_move (.inl rfl)) ?_
  refine rs rfl rfl (ok_move (.inl rfl)) ?_
  refine rs rfl rfl ((ok_binOp rfl ti_uint64 rfl).eq (x' := .v (.int .u64 (D i % 256 : Nat))) (congrArg (fun x => AV.v (.int .u64 x)) (by rw [Int.tmod_eq_emod_of_nonneg (by omega)]; omega)) rfl) ?_
  refine rs rfl rfl ((ok_conv_int rfl ti_uint64 ti_uint8 rfl rfl).eq (x' := .v (.int .u8 (IntKind.u8.wrap (v / 2 ^ (8 * i))))) (congrArg (fun x => AV.v (.int .u8 x)) (by rw [wrap_u8, wrap_u8]; omega)) rfl) ?_
  refine rs rfl rfl (ok_buildSlice (n := 1) (ps := #[(0, .tmp 15)]) rfl ti_Luint8 rfl ti_uint8 (by decide) rfl rfl (by decide) rfl rfl rfl) ?_
  refine rs rfl rfl (by exact ok_append_ints (k := .u8) (xs := enc v i) (ys := [IntKind.u8.wrap (v / 2 ^ (8 * i))]) rfl ti_Luint8 rfl ti_uint8 rfl (by decide) rfl ti_Luint8 (by simp) rfl rfl rfl rfl rfl rfl rfl rfl rfl (by simp <;> omega)) ?_
  refine rs rfl rfl (ok_move (.inr rfl)) ?_
  refine ro_nil ?_
  refine keepK hK9 [3, 4, 5] (by dsimp) (by dsimp) ?_
  refine T.region ?_
  refine rs rfl rfl (ok_move (.inl rfl)) ?_
  refine rs rfl rfl ((ok_binOp rfl ti_uint64 rfl).eq (x' := .v (.int .u64 (D (i + 1)))) (congrArg (fun x => AV.v (.int .u64 x)) (by rw [Int.tdiv_eq_ediv_of_nonneg (by omega), wrap_u64]; omega)) rfl) ?_
  refine rs rfl rfl (ok_move (.inr rfl)) ?_
  refine ro_nil ?_
  refine keepK hK8 [3, 4, 5] (by dsimp) (by dsimp) ?_
  refine T.region ?_
  refine rs rfl rfl (ok_move (.inl rfl)) ?_
  refine rs rfl rfl (ok_add64 rfl ti_int rfl rfl (by omega) (by omega)) ?_
  refine rs rfl rfl (ok_move (.inr rfl)) ?_
  refine ro_nil ?_
  exact ⟨i + 1, by omega, by omega, TEnt.fin [2] (by decide) (by simp) (by rw [← enc_succ]; simp [normH, hget, Blk.ren, renL_ints]) ⟨by rw [← enc_succ]; rfl, rfl, rfl, trivial⟩⟩
 ·(try simp only [dE] at hc)
  have hin : i = 8 := by omega
  subst hin
  refine T.exit ?_
  refine keepK hK4 [3] (by dsimp) (by dsimp) ?_
  refine T.seq fun K10 hK10 => ?_
  refine T.region ?_
  refine rs rfl rfl (ok_move (.inl rfl)) ?_
  refine rs rfl rfl (ok_move (.inr rfl)) ?_
  refine ro_nil ?_
  refine keepK hK10 [2] (by dsimp) (by dsimp) ?_
  refine T.ret (hQ _ _ _ rfl ?_).1 -- ret 1
  exact TEnt.fin [0] (by decide) (by simp) (by simp [normH, hget, Blk.ren, renL_ints]) ⟨rfl, trivial⟩
theorem rint_frz (v : Int) : CSpec Tryz.prog 49 [] [.int v] [] (.fz 1 (ints .u8 (enc v 8))) := (rint_new v).frz (by simp) (renL_ints _ _ _)
/-- Numbers as bytes, one behind the other. -/
def encs : List Int → List Int
  | [] => []
  | v :: l => enc v 8 ++ encs l
theorem encs_append (a b : List Int) : encs (a ++ b) = encs a ++ encs b := by
  induction a with
  | nil => rfl
  | cons v a ih => simp [encs, ih]
theorem encs_snoc (a : List Int) (v : Int) : encs (a ++ [v]) = encs a ++ enc v 8 := by rw [encs_append]; simp [encs]
theorem encs_len (l : List Int) : (encs l).length = 8 * l.length := by
  induction l with
  | nil => rfl
  | cons v l ih => simp [encs, ih]; omega
theorem encs_bytes (l : List Int) : Bytes (encs l) := by
  induction l with
  | nil => exact Bytes.nil
  | cons v l ih => exact (enc_bytes _ _).append ih
theorem rput_new (c : Cf) : CSpec Tryz.prog 53 [] [.agg (CC c)] [some ⟨1, true, ints .u8 (encs c.l)⟩] (.sl 0 0 (encs c.l).length) := by
 obtain ⟨L, hL⟩ : ∃ L, c.l.drop 1 = L := ⟨_, rfl⟩
 have hLl : L.length = 10 := by rw [← hL]; rfl
 have hcl : c.l = c.id :: L := by rw [← hL]; rfl
 rw [hcl]
 refine CSpec.body Tryz.func53 rfl rfl rfl rfl rfl fun Q hQ => ?_
 refine T.seq fun K1 hK1 => ?_
 refine T.region ?_
 refine rs rfl rfl (ok_box (n := 11) rfl rfl (by decide)) ?_
 refine rs rfl rfl (ok_move (.inr rfl)) ?_
 refine ro_nil ?_
 refine keepK hK1 [1] (by dsimp) (by dsimp) ?_
 refine T.seq fun K2 hK2 => ?_
 refine T.region ?_
 refine rs rfl rfl (ok_fieldAddr rfl ti_api_Conf rfl rfl ti_int (by decide) rfl) ?_
 refine rs rfl rfl (ok_load rfl ti_int rfl rfl) ?_
 refine ro rfl rfl (ok_call rfl rfl rfl ((rint_new c.id).fresh (x' := .sl 1 0 8) (H' := [some ⟨1, true, ints .u8 (encs [c.id])⟩]) rfl rfl (by simp [renH, Blk.ren, renL_ints, encs]))) ?_
 refine rs rfl rfl (ok_move (.inr rfl)) ?_
 refine ro_nil ?_
 refine keepK hK2 [1, 3] (by dsimp) (by dsimp) ?_
 refine T.seq fun K3 hK3 => ?_
 refine T.region ?_
 refine rs rfl rfl (ok_load rfl ti_api_Conf rfl rfl) ?_
 refine ro rfl rfl (ok_call rfl rfl rfl (((list_frz c).plain rfl (by simp [AV.ren, renL_ints])).eq (x' := .fz 1 (ints .i64 L)) (by rw [hL]) rfl)) ?_
 refine rs rfl rfl (ok_move (.inr rfl)) ?_
 refine ro_nil ?_
 refine keepK hK3 [3, 4] (by dsimp) (by dsimp) ?_
 refine T.seq fun K4 hK4 => ?_
 refine T.seq fun K5 hK5 => ?_
 refine T.region ?_
 refine rs rfl rfl (ok_move (.inr rfl)) ?_
 refine ro_nil ?_
 refine keepK hK5 [3, 4, 5] (by dsimp) (by dsimp) ?_
 refine T.block ?_
 refine T.loopI (ι := Nat) (fun i => i ≤ 10) (fun i => 10 - i) (fun i => ([(3, .sl 0 0 (encs (c.id :: L.take i)).length), (4, .fz 1 (ints .i64 L)), (5, .int i)], [some ⟨1, true, ints .u8 (encs (c.id :: L.take i))⟩])) 0 (Nat.zero_le _) (TEnt.fin [1] (by decide) (by simp) (by simp [normH, hget, Blk.ren, renL_ints]) ⟨rfl, by simp [AV.ren, renL_ints], rfl, trivial⟩) (fun i hi => ?_) -- loop 1
 refine T.seq fun K6 hK6 => ?_
 refine T.seq fun K7 hK7 => ?_
 refine T.region ?_
 refine rs rfl rfl (ok_move (.inl rfl)) ?_
 refine rs rfl rfl (ok_move (.inl rfl)) ?_
 refine rs rfl rfl (ok_len' rfl rfl ti_Lint rfl (by first | exact ints_length _ _ | exact rowsA_length _ _ | exact Cms_len _ | exact mapLen _ | rfl)) ?_
 refine rs rfl rfl (ok_binOp rfl ti_int rfl) ?_
 refine ro_nil ?_
 refine keepK hK7 [3, 4, 5, 14] (by dsimp) (by dsimp) ?_
 refine T.cond rfl (fun hc => ?_) (fun hc => ?_) -- cond 1
 ·(try simp only [dE] at hc)
  have hi10 : i < 10 := by omega
  obtain ⟨x, hx⟩ : ∃ x, L[i]? = some x := ⟨_, List.getElem?_eq_getElem (by omega)⟩
  have htk : L.take (i + 1) = L.take i ++ [x] := take_succ_get hx
  have hen : encs (c.id :: L.take (i + 1)) = encs (c.id :: L.take i) ++ enc x 8 := by rw [htk, ← encs_snoc]; rfl
  have hel : (encs (c.id :: L.take i)).length ≤ 88 := by rw [encs_len]; simp; omega
  refine T.skip ?_
  refine keepK hK6 [3, 4, 5] (by dsimp) (by dsimp) ?_
  refine T.seq fun K8 hK8 => ?_
  refine T.block ?_
  refine T.region ?_
  refine rs rfl rfl (ok_move (.inl rfl)) ?_
  refine rs rfl rfl (ok_move (.inl rfl)) ?_
  refine rs rfl rfl (ok_move (.inl rfl)) ?_
  refine rs rfl rfl (by exact ok_index_ints rfl ti_Lint rfl ti_int rfl rfl rfl (by omega) (by simpa using hx)) ?_
  refine rs rfl rfl (ok_load rfl ti_int rfl rfl) ?_
  refine ro rfl rfl (ok_call rfl rfl rfl ((rint_frz x).plain rfl (by simp [AV.ren, renL_ints]))) ?_
  refine rs rfl rfl (by exact ok_append_ints (k := .u8) (xs := encs (c.id :: L.take i)) (ys := enc x 8) rfl ti_Luint8 rfl ti_uint8 rfl (by decide) rfl ti_Luint8 (by simp) rfl rfl rfl rfl rfl rfl rfl rfl rfl (by simp <;> omega)) ?_
  refine rs rfl rfl (ok_move (.inr rfl)) ?_
  refine ro_nil ?_
  refine keepK hK8 [3, 4, 5] (by dsimp) (by dsimp) ?_
  refine T.region ?_
  refine rs rfl rfl (ok_move (.inl rfl)) ?_
  refine rs rfl rfl (ok_add64 rfl ti_int rfl rfl (by omega) (by omega)) ?_
  refine rs rfl rfl (ok_move (.inr rfl)) ?_
  refine ro_nil ?_
  exact ⟨i + 1, by omega, by omega, TEnt.fin [1] (by decide) (by simp) (by rw [hen]; simp [normH, hget, Blk.ren, renL_ints]) ⟨by rw [hen]; rfl, by simp [AV.ren, renL_ints], rfl, trivial⟩⟩
 ·(try simp only [dE] at hc)
  have hin : i = 10 := by omega
  subst hin
  rw [List.take_of_length_le (by omega)]
  refine T.exit ?_
  refine keepK hK4 [3] (by dsimp) (by dsimp) ?_
  refine T.seq fun K9 hK9 => ?_
  refine T.region ?_
  refine rs rfl rfl (ok_move (.inl rfl)) ?_
  refine rs rfl rfl (ok_move (.inr rfl)) ?_
  refine ro_nil ?_
  refine keepK hK9 [2] (by dsimp) (by dsimp) ?_
  refine T.ret (hQ _ _ _ rfl ?_).1 -- ret 1
  exact TEnt.fin [0] (by decide) (by simp) (by simp [normH, hget, Blk.ren, renL_ints]) ⟨rfl, trivial⟩
theorem cput_frz (c : Cf) : CSpec Tryz.prog 38 [] [.agg (CC c)] [] (.fz 1 (ints .u8 (encs c.l))) := by
 obtain ⟨L, hL⟩ : ∃ L, c.l.drop 1 = L := ⟨_, rfl⟩
 have hLl : L.length = 10 := by rw [← hL]; rfl
 have hcl : c.l = c.id :: L := by rw [← hL]; rfl
 refine CSpec.body Tryz.func38 rfl rfl rfl rfl rfl fun Q hQ => ?_
 refine T.seq fun K1 hK1 => ?_
 refine T.region ?_
 refine rs rfl rfl (ok_box (n := 11) rfl rfl (by decide)) ?_
 refine rs rfl rfl (ok_move (.inr rfl)) ?_
 refine ro_nil ?_
 refine keepK hK1 [1] (by dsimp) (by dsimp) ?_
 refine T.seq fun K2 hK2 => ?_
 refine T.region ?_
 refine rs rfl rfl (ok_fieldAddr rfl ti_api_Conf rfl rfl ti_int (by decide) rfl) ?_
 refine rs rfl rfl (ok_load rfl ti_int rfl rfl) ?_
 refine ro rfl rfl (ok_call rfl rfl rfl (((pkint_frz (l := []) (r := encs [c.id]) (v := c.id) (by simp [encs]) (by simp)).plain rfl (by simp [AV.ren, renL_ints])).view (EntL.cons (Ent.nil 1) (EntL.refl _)))) ?_
 refine rs rfl rfl (ok_move (.inr rfl)) ?_
 refine ro_nil ?_
 refine keepK hK2 [1, 3] (by dsimp) (by dsimp) ?_
 refine T.seq fun K3 hK3 => ?_
 refine T.seq fun K4 hK4 => ?_
 refine T.region ?_
 refine ro rfl rfl (ok_call rfl rfl rfl (((numbers_new c).pass [0] (by decide) (by simp) (by simp [normH, hget]; exact CB_ren _ _) rfl).eq (x' := .sl 1 0 10) (H'' := [some (CB c), some NB]) rfl (by simp [mergeH, setIds, renH, CB_ren]; rfl))) ?_
 refine rs rfl rfl (ok_len' rfl rfl ti_LPint rfl (by first | exact ints_length _ _ | exact rowsA_length _ _ | exact Cms_len _ | exact mapLen _ | rfl)) ?_
 refine rs rfl rfl (ok_move (.inl rfl)) ?_
 refine ro_nil ?_
 refine keepK hK4 [3, 9, 10, 11] (by dsimp) (by dsimp) ?_
 refine T.block ?_
 refine T.loopI (ι := Nat) (fun i => i ≤ 10) (fun i => 10 - i) (fun i => ([(3, .fz 1 (ints .u8 (encs (c.id :: L.take i)))), (9, .sl 1 0 10), (10, .int 10), (11, .int i)], [some (CB c), some NB])) 0 (Nat.zero_le _) (TEnt.toH rfl ⟨rfl, rfl, rfl, rfl, trivial⟩) (fun i hi => ?_) -- loop 1
 refine T.seq fun K5 hK5 => ?_
 refine T.region ?_
 refine rs rfl rfl (ok_binOp rfl ti_int rfl) ?_
 refine ro_nil ?_
 refine keepK hK5 [3, 9, 10, 11, 12] (by dsimp) (by dsimp) ?_
 refine T.seq fun K6 hK6 => ?_
 refine T.cond rfl (fun hc => ?_) (fun hc => ?_) -- cond 1
 ·(try simp only [dE] at hc)
  have hi10 : i < 10 := by omega
  obtain ⟨x, hx⟩ : ∃ x, L[i]? = some x := ⟨_, List.getElem?_eq_getElem (by omega)⟩
  have hxc : c.l[i + 1]? = some x := by rw [hcl]; simpa using hx
  have htk : L.take (i + 1) = L.take i ++ [x] := take_succ_get hx
  have hen : encs (c.id :: L.take i) ++ enc x 8 = encs (c.id :: L.take (i + 1)) := by rw [htk, ← encs_snoc]; rfl
  have hel : (encs (c.id :: L.take i)).length ≤ 88 := by rw [encs_len]; simp; omega
  refine T.skip ?_
  refine keepK hK6 [3, 9, 10, 11] (by dsimp) (by dsimp) ?_
  refine T.seq fun K7 hK7 => ?_
  refine T.block ?_
  refine T.seq fun K8 hK8 => ?_
  refine T.region ?_
  refine rs rfl rfl (by exact ok_index_sl rfl ti_LPint rfl ti_Pint rfl rfl rfl rfl (by omega) (by omega)) ?_
  refine rs rfl rfl (by exact ok_load rfl ti_Pint (cl := [.ref 0 0 (i + 1)]) (f := 0) (by show locA [some (CB c), some NB] (.ref 1 (0 + ((i : Nat) : Int).toNat) 0) = _; simp [locA, hget, NB_get hi10, AV.cells]) rfl) ?_
  refine rs rfl rfl (ok_move (.inr rfl)) ?_
  refine ro_nil ?_
  refine keepK hK8 [3, 5, 9, 10, 11] (by dsimp) (by dsimp) ?_
  refine T.region ?_
  refine rs rfl rfl (ok_move (.inl rfl)) ?_
  refine rs rfl rfl (ok_move (.inl rfl)) ?_
  refine rs rfl rfl (ok_nilCheck rfl rfl) ?_
  refine rs rfl rfl (by exact ok_load rfl ti_int (cl := CC c) (f := i + 1) rfl (CC_get hxc)) ?_
  refine ro rfl rfl (ok_call rfl rfl rfl ((pkint_frz hen (by omega)).plain (by simp [renL, AV.ren, renL_ints]) (by simp [AV.ren, renL_ints]))) ?_
  refine rs rfl rfl (ok_move (.inr rfl)) ?_
  refine ro_nil ?_
  refine keepK hK7 [3, 9, 10, 11] (by dsimp) (by dsimp) ?_
  refine T.region ?_
  refine rs rfl rfl (ok_add64 rfl ti_int rfl rfl (by omega) (by omega)) ?_
  refine rs rfl rfl (ok_move (.inl rfl)) ?_
  refine ro_nil ?_
  exact ⟨i + 1, by omega, by omega, TEnt.toH rfl ⟨rfl, rfl, rfl, rfl, trivial⟩⟩
 ·(try simp only [dE] at hc)
  have hi10 : i = 10 := by omega
  subst hi10
  rw [List.take_of_length_le (by omega), ← hcl]
  refine T.exit ?_
  refine keepK hK3 [3] (by dsimp) (by dsimp) ?_
  refine T.seq fun K9 hK9 => ?_
  refine T.region ?_
  refine rs rfl rfl (ok_move (.inl rfl)) ?_
  refine rs rfl rfl (ok_move (.inr rfl)) ?_
  refine ro_nil ?_
  refine keepK hK9 [2] (by dsimp) (by dsimp) ?_
  refine T.ret (hQ _ _ _ rfl ?_).1 -- ret 1
  exact TEnt.fin [] (by decide) (by simp) rfl ⟨by simp [tupA, AV.ren, renL_ints], trivial⟩
/-- Numbers read one behind the other between the same bounds: the place and the error behind so many. -/
def rdN (l : List Int) (a b : Int) : Nat → Nat × Int
  | 0 => (0, 0)
  | n + 1 => ((ri l (rdN l a b n).1 (rdN l a b n).2 a b).1, (ri l (rdN l a b n).1 (rdN l a b n).2 a b).2.1)
def rdV (l : List Int) (a b : Int) (n : Nat) : Int := (ri l (rdN l a b n).1 (rdN l a b n).2 a b).2.2
theorem rdN_le (l : List Int) (a b : Int) : ∀ n, (rdN l a b n).1 ≤ l.length
  | 0 => Nat.zero_le _
  | n + 1 => ri_le (rdN_le l a b n)
def rdL (l : List Int) (a b : Int) (i n : Nat) : List Int := (List.range i).map (rdV l a b) ++ List.replicate n 0
theorem rdL_len (l : List Int) (a b : Int) (i n : Nat) : (rdL l a b i n).length = i + n := by simp [rdL]
theorem rdL_put (l : List Int) (a b : Int) (i n : Nat) : splice (ints .i64 (rdL l a b i (n + 1))) i [.int (rdV l a b i)] = ints .i64 (rdL l a b (i + 1) n) := by
  have h1 : (rdL l a b i (n + 1)).take i = (List.range i).map (rdV l a b) := by unfold rdL; exact List.take_left' (by simp)
  have h2 : (rdL l a b i (n + 1)).drop (i + 1) = List.replicate n 0 := by
    unfold rdL
    rw [List.replicate_succ]
    have : (List.range i).map (rdV l a b) ++ 0 :: List.replicate n 0 = ((List.range i).map (rdV l a b) ++ [0]) ++ List.replicate n 0 := by simp
    rw [this]
    exact List.drop_left' (by simp)
  unfold splice
  rw [ints_take, h1]
  simp only [List.length_cons, List.length_nil, Nat.zero_add]
  rw [ints_drop, h2]
  simp [ints, rdL, List.range_succ]
def cf11 (f : Nat → Int) : Cf := ⟨f 0, f 1, f 2, f 3, f 4, f 5, f 6, f 7, f 8, f 9, f 10⟩
def cf0 : Cf := ⟨0, 0, 0, 0, 0, 0, 0, 0, 0, 0, 0⟩
abbrev gA : Int := -4611686018427387904
abbrev gB : Int := 4611686018427387904
/-- Settings read of bytes, and the error. -/
def getC (l : List Int) : Cf × Int :=
  if (rdN l gA gB 11).2 ≠ 0 then (cf0, (rdN l gA gB 11).2) else if (rdN l gA gB 11).1 < l.length then (cf0, 13) else (cf11 (rdV l gA gB), 0)
theorem getC_err {l : List Int} (h : (rdN l gA gB 11).2 ≠ 0) : getC l = (cf0, (rdN l gA gB 11).2) := if_pos h
theorem getC_form {l : List Int} (h : ¬ (rdN l gA gB 11).2 ≠ 0) (h' : (rdN l gA gB 11).1 < l.length) : getC l = (cf0, 13) := by unfold getC; rw [if_neg h, if_pos h']
theorem getC_ok {l : List Int} (h : ¬ (rdN l gA gB 11).2 ≠ 0) (h' : ¬ (rdN l gA gB 11).1 < l.length) : getC l = (cf11 (rdV l gA gB), 0) := by unfold getC; rw [if_neg h, if_neg h']
/-- The pointers, where the settings are the third block. -/
def NB2 : Blk := ⟨1, true, [.ref 2 0 1, .ref 2 0 2, .ref 2 0 3, .ref 2 0 4, .ref 2 0 5, .ref 2 0 6, .ref 2 0 7, .ref 2 0 8, .ref 2 0 9, .ref 2 0 10]⟩
theorem NB2_get {i : Nat} (h : i < 10) : NB2.els[i]? = some (.ref 2 0 (i + 1)) := by
  match i, h with
  | 0, _ | 1, _ | 2, _ | 3, _ | 4, _ | 5, _ | 6, _ | 7, _ | 8, _ | 9, _ => rfl
theorem cget_ok (l : List Int) (hB : Bytes l) (hl : l.length ≤ 140737488355328) : CSpec Tryz.prog 99 [] [.fz 1 (ints .u8 l)] [] (.tup [.agg (CC (getC l).1), .int (getC l).2]) := by
 refine CSpec.body Tryz.func99 rfl rfl rfl rfl rfl fun Q hQ => ?_
 refine T.seq fun K1 hK1 => ?_
 refine T.region ?_
 refine rs rfl rfl (ok_alloc rfl ti_api_Conf rfl (by decide)) ?_
 refine rs rfl rfl (ok_move (.inr rfl)) ?_
 refine ro_nil ?_
 refine keepK hK1 [0, 2] (by dsimp) (by dsimp) ?_
 refine T.seq fun K2 hK2 => ?_
 refine T.region ?_
 refine rs rfl rfl (ok_move (.inl rfl)) ?_
 refine ro rfl rfl (ok_call rfl rfl rfl ((new_ok l hl).fresh (x' := .ref 1 0 0) (H' := [some (R l 0 0)]) (by simp [renL, AV.ren, renL_ints]) rfl (by simp [renH, R, Blk.ren, renL, AV.ren, renL_ints]))) ?_
 refine rs rfl rfl (ok_move (.inr rfl)) ?_
 refine ro_nil ?_
 refine keepK hK2 [2, 4] (by dsimp) (by dsimp) ?_
 refine T.seq fun K3 hK3 => ?_
 refine T.region ?_
 refine rs rfl rfl (ok_move (.inl rfl)) ?_
 refine ro rfl rfl (ok_call rfl rfl rfl (((int_ok l 0 0 gA gB hB (by omega) hl).pass [1] (by decide) (by simp) (by simp [normH, hget, R, Blk.ren, renL, AV.ren, renL_ints]) rfl).eq (x' := .int (rdV l gA gB 0)) (H'' := [some (CB cf0), some (R l (rdN l gA gB 1).1 (rdN l gA gB 1).2)]) rfl (by simp [mergeH, setIds, renH, R, Blk.ren, renL, AV.ren, renL_ints]; exact ⟨rfl, rfl, rfl⟩))) ?_
 refine rs rfl rfl (ok_build rfl ti_api_Conf rfl) ?_
 refine rs rfl rfl (ok_alloc rfl ti_api_Conf rfl (by decide)) ?_
 refine rs rfl rfl (ok_store rfl ti_api_Conf (by decide) rfl rfl rfl rfl rfl (by first | exact Nat.le_of_ble_eq_true rfl | simp) (by first | exact .inl ⟨rfl, rfl⟩ | exact .inr rfl)) ?_
 refine ro_nil ?_
 refine keepK hK3 [2, 4, 5] (by dsimp) (by dsimp) ?_
 refine T.seq fun K4 hK4 => ?_
 refine T.seq fun K5 hK5 => ?_
 have hp := rdN_le l gA gB
 refine T.region ?_
 refine ro rfl rfl (ok_call rfl rfl rfl (((numbers_new ⟨rdV l gA gB 0, 0, 0, 0, 0, 0, 0, 0, 0, 0, 0⟩).pass [2] (by decide) (by simp) rfl rfl).eq (x' := .sl 3 0 10) (H'' := [some (CB cf0), some (R l (rdN l gA gB 1).1 (rdN l gA gB 1).2), some ⟨11, true, [.agg (ints .i64 (rdL l gA gB 1 10))]⟩, some NB2]) rfl rfl)) ?_
 refine rs rfl rfl (ok_len' rfl rfl ti_LPint rfl (by first | exact ints_length _ _ | exact rowsA_length _ _ | exact Cms_len _ | exact mapLen _ | rfl)) ?_
 refine rs rfl rfl (ok_move (.inl rfl)) ?_
 refine ro_nil ?_
 refine keepK hK5 [2, 4, 5, 14, 15, 16] (by dsimp) (by dsimp) ?_
 refine T.block ?_
 refine T.loopI (ι := Nat) (fun i => i ≤ 10) (fun i => 10 - i) (fun i => ([(2, .ref 0 0 0), (4, .ref 1 0 0), (5, .ref 2 0 0), (14, .sl 3 0 10), (15, .int 10), (16, .int i)], [some (CB cf0), some (R l (rdN l gA gB (i + 1)).1 (rdN l gA gB (i + 1)).2), some ⟨11, true, [.agg (ints .i64 (rdL l gA gB (i + 1) (10 - i)))]⟩, some NB2])) 0 (Nat.zero_le _) (TEnt.toH rfl ⟨rfl, rfl, rfl, rfl, rfl, rfl, trivial⟩) (fun i hi => ?_) -- loop 1
 refine T.seq fun K6 hK6 => ?_
 refine T.region ?_
 refine rs rfl rfl (ok_binOp rfl ti_int rfl) ?_
 refine ro_nil ?_
 refine keepK hK6 [2, 4, 5, 14, 15, 16, 17] (by dsimp) (by dsimp) ?_
 refine T.seq fun K7 hK7 => ?_
 refine T.cond rfl (fun hc => ?_) (fun hc => ?_) -- cond 1
 ·(try simp only [dE] at hc)
  have hi10 : i < 10 := by omega
  obtain ⟨m, hm⟩ : ∃ m, 10 - i = m + 1 := ⟨9 - i, by omega⟩
  have hm' : 10 - (i + 1) = m := by omega
  rw [hm]
  refine T.skip ?_
  refine keepK hK7 [2, 4, 5, 14, 15, 16] (by dsimp) (by dsimp) ?_
  refine T.seq fun K8 hK8 => ?_
  refine T.block ?_
  refine T.seq fun K9 hK9 => ?_
  refine T.region ?_
  refine rs rfl rfl (by exact ok_index_sl rfl ti_LPint rfl ti_Pint rfl rfl rfl rfl (by omega) (by omega)) ?_
  refine rs rfl rfl (by exact ok_load rfl ti_Pint (cl := [.ref 2 0 (i + 1)]) (f := 0) (by show locA [_, _, _, some NB2] (.ref 3 (0 + ((i : Nat) : Int).toNat) 0) = _; simp [locA, hget, NB2_get hi10, AV.cells]) rfl) ?_
  refine rs rfl rfl (ok_move (.inr rfl)) ?_
  refine ro_nil ?_
  refine keepK hK9 [2, 4, 5, 7, 14, 15, 16] (by dsimp) (by dsimp) ?_
  refine T.region ?_
  refine rs rfl rfl (ok_move (.inl rfl)) ?_
  refine rs rfl rfl (ok_move (.inl rfl)) ?_
  refine ro rfl rfl (ok_call rfl rfl rfl (((int_ok l (rdN l gA gB (i + 1)).1 (rdN l gA gB (i + 1)).2 gA gB hB (hp _) hl).pass [1] (by decide) (by simp) (by simp [normH, hget, R, Blk.ren, renL, AV.ren, renL_ints]) rfl).eq (x' := .int (rdV l gA gB (i + 1))) (H'' := [some (CB cf0), some (R l (rdN l gA gB (i + 2)).1 (rdN l gA gB (i + 2)).2), some ⟨11, true, [.agg (ints .i64 (rdL l gA gB (i + 1) (m + 1)))]⟩, some NB2]) rfl (by simp [mergeH, setIds, renH, R, Blk.ren, renL, AV.ren, renL_ints]; exact ⟨rfl, rfl⟩))) ?_
  refine rs rfl rfl (ok_nilCheck rfl rfl) ?_
  refine rs rfl rfl ((ok_store rfl ti_int (by decide) (id := 2) (j := 0) (f := i + 1) rfl rfl rfl rfl rfl (by show i + 1 + 1 ≤ 11; omega) (.inr (by show (ints .i64 (rdL l gA gB (i + 1) (m + 1))).length = 11; rw [ints_length, rdL_len]; omega))).eq (H'' := [some (CB cf0), some (R l (rdN l gA gB (i + 2)).1 (rdN l gA gB (i + 2)).2), some ⟨11, true, [.agg (ints .i64 (rdL l gA gB (i + 2) m))]⟩, some NB2]) rfl (by rw [← rdL_put l gA gB (i + 1) m]; rfl)) ?_
  refine ro_nil ?_
  refine keepK hK8 [2, 4, 5, 14, 15, 16] (by dsimp) (by dsimp) ?_
  refine T.region ?_
  refine rs rfl rfl (ok_add64 rfl ti_int rfl rfl (by omega) (by omega)) ?_
  refine rs rfl rfl (ok_move (.inl rfl)) ?_
  refine ro_nil ?_
  exact ⟨i + 1, by omega, by omega, TEnt.toH (by rw [hm']) ⟨rfl, rfl, rfl, rfl, rfl, rfl, trivial⟩⟩
 ·(try simp only [dE] at hc)
  have hi10 : i = 10 := by omega
  subst hi10
  refine T.exit ?_
  refine keepK hK4 [2, 4, 5] (by dsimp) (by dsimp) ?_
  refine T.seq fun K10 hK10 => ?_
  have hp11 := hp 11
  refine T.region ?_
  refine rs rfl rfl (ok_move (.inl rfl)) ?_
  refine ro rfl rfl (ok_call rfl rfl rfl (((err_ok l (rdN l gA gB 11).1 (rdN l gA gB 11).2).pass [1] (by decide) (by simp) (by simp [normH, hget, R, Blk.ren, renL, AV.ren, renL_ints]) rfl).eq (x' := .int (rdN l gA gB 11).2) (H'' := [some (CB cf0), some (R l (rdN l gA gB 11).1 (rdN l gA gB 11).2), some (CB (cf11 (rdV l gA gB))), some NB2]) rfl (by simp [mergeH, setIds, renH, R, Blk.ren, renL, AV.ren, renL_ints]; rfl))) ?_
  refine rs rfl rfl (ok_move (.inr rfl)) ?_
  refine ro_nil ?_
  refine keepK hK10 [2, 4, 5, 8] (by dsimp) (by dsimp) ?_
  refine T.seq fun K11 hK11 => ?_
  refine T.seq fun K12 hK12 => ?_
  refine T.region ?_
  refine rs rfl rfl (ok_move (.inl rfl)) ?_
  refine rs rfl rfl (ok_binOp rfl ti_api_Errno rfl) ?_
  refine ro_case rfl rfl (OpOk.step (ok_moveb (.inl rfl) rfl)) (fun hb => ?_) (fun hb => ?_)
  ·(try simp only [dE] at hb)
   refine rs rfl rfl (ok_move (.inl rfl)) ?_
   refine ro rfl rfl (ok_call rfl rfl rfl (((left_ok l (rdN l gA gB 11).1 (rdN l gA gB 11).2 hp11 hl).pass [1] (by decide) (by simp) (by simp [normH, hget, R, Blk.ren, renL, AV.ren, renL_ints]) rfl).eq (x' := .int ((l.length : Int) - (rdN l gA gB 11).1)) (H'' := [some (CB cf0), some (R l (rdN l gA gB 11).1 (rdN l gA gB 11).2), some (CB (cf11 (rdV l gA gB))), some NB2]) rfl (by simp [mergeH, setIds, renH, R, Blk.ren, renL, AV.ren, renL_ints]))) ?_
   refine rs rfl rfl (ok_binOp rfl ti_int rfl) ?_
   refine rs rfl rfl (ok_pick rfl rfl) ?_
   refine ro_nil ?_
   refine keepK hK12 [2, 5, 8, 33] (by dsimp) (by dsimp) ?_
   refine T.cond rfl (fun hc => ?_) (fun hc => ?_) -- cond 2
   ·(try simp only [dE] at hc)
    refine T.region ?_
    refine rs rfl rfl (ok_move (.inr rfl)) ?_
    refine ro_nil ?_
    refine keepK hK11 [2, 5, 8] (by dsimp) (by dsimp) ?_
    refine T.seq fun K13 hK13 => ?_
    refine T.seq fun K14 hK14 => ?_
    refine T.region ?_
    refine rs rfl rfl (ok_move (.inl rfl)) ?_
    refine rs rfl rfl (ok_binOp rfl ti_api_Errno rfl) ?_
    refine ro_nil ?_
    refine keepK hK14 [2, 5, 8, 35] (by dsimp) (by dsimp) ?_
    refine T.cond rfl (fun hc => ?_) (fun hc => ?_) -- cond 3
    ·(try simp only [dE] at hc)
     refine T.seq fun K15 hK15 => ?_
     refine T.region ?_
     refine rs rfl rfl (ok_build rfl ti_api_Conf rfl) ?_
     refine rs rfl rfl (ok_move (.inl rfl)) ?_
     refine rs rfl rfl (ok_store rfl ti_api_Conf (by decide) rfl rfl rfl rfl rfl (by first | exact Nat.le_of_ble_eq_true rfl | simp) (by first | exact .inl ⟨rfl, rfl⟩ | exact .inr rfl)) ?_
     refine rs rfl rfl (ok_move (.inr rfl)) ?_
     refine ro_nil ?_
     refine keepK hK15 [2, 3] (by dsimp) (by dsimp) ?_
     refine T.ret (hQ _ _ _ rfl ?_).1 -- ret 1
     exact by first | (exact absurd hc (by decide)) | (rw [getC_form (by omega) (by omega)]; exact TEnt.fin [] (by decide) (by simp) rfl ⟨rfl, trivial⟩) | (rw [getC_err (by omega)]; exact TEnt.fin [] (by decide) (by simp) rfl ⟨rfl, trivial⟩) | (rw [getC_ok (by omega) (by omega)]; exact TEnt.fin [] (by decide) (by simp) rfl ⟨rfl, trivial⟩)
    ·(try simp only [dE] at hc)
     refine T.skip ?_
     refine keepK hK13 [2, 5] (by dsimp) (by dsimp) ?_
     refine T.seq fun K16 hK16 => ?_
     refine T.region ?_
     refine rs rfl rfl (ok_load rfl ti_api_Conf rfl rfl) ?_
     refine rs rfl rfl (ok_store rfl ti_api_Conf (by decide) rfl rfl rfl rfl rfl (by first | exact Nat.le_of_ble_eq_true rfl | simp) (by first | exact .inl ⟨rfl, rfl⟩ | exact .inr rfl)) ?_
     refine rs rfl rfl (ok_move (.inr rfl)) ?_
     refine ro_nil ?_
     refine keepK hK16 [2, 3] (by dsimp) (by dsimp) ?_
     refine T.ret (hQ _ _ _ rfl ?_).1 -- ret 2
     exact by first | (exact absurd hc (by decide)) | (rw [getC_form (by omega) (by omega)]; exact TEnt.fin [] (by decide) (by simp) rfl ⟨rfl, trivial⟩) | (rw [getC_err (by omega)]; exact TEnt.fin [] (by decide) (by simp) rfl ⟨rfl, trivial⟩) | (rw [getC_ok (by omega) (by omega)]; exact TEnt.fin [] (by decide) (by simp) rfl ⟨rfl, trivial⟩)
   ·(try simp only [dE] at hc)
    refine T.skip ?_
    refine keepK hK11 [2, 5, 8] (by dsimp) (by dsimp) ?_
    refine T.seq fun K17 hK17 => ?_
    refine T.seq fun K18 hK18 => ?_
    refine T.region ?_
    refine rs rfl rfl (ok_move (.inl rfl)) ?_
    refine rs rfl rfl (ok_binOp rfl ti_api_Errno rfl) ?_
    refine ro_nil ?_
    refine keepK hK18 [2, 5, 8, 35] (by dsimp) (by dsimp) ?_
    refine T.cond rfl (fun hc => ?_) (fun hc => ?_) -- cond 4
    ·(try simp only [dE] at hc)
     refine T.seq fun K19 hK19 => ?_
     refine T.region ?_
     refine rs rfl rfl (ok_build rfl ti_api_Conf rfl) ?_
     refine rs rfl rfl (ok_move (.inl rfl)) ?_
     refine rs rfl rfl (ok_store rfl ti_api_Conf (by decide) rfl rfl rfl rfl rfl (by first | exact Nat.le_of_ble_eq_true rfl | simp) (by first | exact .inl ⟨rfl, rfl⟩ | exact .inr rfl)) ?_
     refine rs rfl rfl (ok_move (.inr rfl)) ?_
     refine ro_nil ?_
     refine keepK hK19 [2, 3] (by dsimp) (by dsimp) ?_
     refine T.ret (hQ _ _ _ rfl ?_).1 -- ret 3
     exact by first | (exact absurd hc (by decide)) | (rw [getC_form (by omega) (by omega)]; exact TEnt.fin [] (by decide) (by simp) rfl ⟨rfl, trivial⟩) | (rw [getC_err (by omega)]; exact TEnt.fin [] (by decide) (by simp) rfl ⟨rfl, trivial⟩) | (rw [getC_ok (by omega) (by omega)]; exact TEnt.fin [] (by decide) (by simp) rfl ⟨rfl, trivial⟩)
    ·(try simp only [dE] at hc)
     refine T.skip ?_
     refine keepK hK17 [2, 5] (by dsimp) (by dsimp) ?_
     refine T.seq fun K20 hK20 => ?_
     refine T.region ?_
     refine rs rfl rfl (ok_load rfl ti_api_Conf rfl rfl) ?_
     refine rs rfl rfl (ok_store rfl ti_api_Conf (by decide) rfl rfl rfl rfl rfl (by first | exact Nat.le_of_ble_eq_true rfl | simp) (by first | exact .inl ⟨rfl, rfl⟩ | exact .inr rfl)) ?_
     refine rs rfl rfl (ok_move (.inr rfl)) ?_
     refine ro_nil ?_
     refine keepK hK20 [2, 3] (by dsimp) (by dsimp) ?_
     refine T.ret (hQ _ _ _ rfl ?_).1 -- ret 4
     exact by first | (exact absurd hc (by decide)) | (rw [getC_form (by omega) (by omega)]; exact TEnt.fin [] (by decide) (by simp) rfl ⟨rfl, trivial⟩) | (rw [getC_err (by omega)]; exact TEnt.fin [] (by decide) (by simp) rfl ⟨rfl, trivial⟩) | (rw [getC_ok (by omega) (by omega)]; exact TEnt.fin [] (by decide) (by simp) rfl ⟨rfl, trivial⟩)
  ·(try simp only [dE] at hb)
   refine ro_skip rfl rfl ?_
   refine ro_skip rfl rfl ?_
   refine ro_skip rfl rfl ?_
   refine rs rfl rfl (ok_pickb (t := false) (d := false) rfl rfl rfl) ?_
   refine ro_nil ?_
   refine keepK hK12 [2, 5, 8, 33] (by dsimp) (by dsimp) ?_
   refine T.cond_false rfl ?_
   refine T.skip ?_
   refine keepK hK11 [2, 5, 8] (by dsimp) (by dsimp) ?_
   refine T.seq fun K21 hK21 => ?_
   refine T.seq fun K22 hK22 => ?_
   refine T.region ?_
   refine rs rfl rfl (ok_move (.inl rfl)) ?_
   refine rs rfl rfl (ok_binOp rfl ti_api_Errno rfl) ?_
   refine ro_nil ?_
   refine keepK hK22 [2, 5, 8, 35] (by dsimp) (by dsimp) ?_
   refine T.cond rfl (fun hc => ?_) (fun hc => ?_) -- cond 5
   ·(try simp only [dE] at hc)
    refine T.seq fun K23 hK23 => ?_
    refine T.region ?_
    refine rs rfl rfl (ok_build rfl ti_api_Conf rfl) ?_
    refine rs rfl rfl (ok_move (.inl rfl)) ?_
    refine rs rfl rfl (ok_store rfl ti_api_Conf (by decide) rfl rfl rfl rfl rfl (by first | exact Nat.le_of_ble_eq_true rfl | simp) (by first | exact .inl ⟨rfl, rfl⟩ | exact .inr rfl)) ?_
    refine rs rfl rfl (ok_move (.inr rfl)) ?_
    refine ro_nil ?_
    refine keepK hK23 [2, 3] (by dsimp) (by dsimp) ?_
    refine T.ret (hQ _ _ _ rfl ?_).1 -- ret 5
    exact by first | (exact absurd hc (by decide)) | (rw [getC_form (by omega) (by omega)]; exact TEnt.fin [] (by decide) (by simp) rfl ⟨rfl, trivial⟩) | (rw [getC_err (by omega)]; exact TEnt.fin [] (by decide) (by simp) rfl ⟨rfl, trivial⟩) | (rw [getC_ok (by omega) (by omega)]; exact TEnt.fin [] (by decide) (by simp) rfl ⟨rfl, trivial⟩)
   ·(try simp only [dE] at hc)
    refine T.skip ?_
    refine keepK hK21 [2, 5] (by dsimp) (by dsimp) ?_
    refine T.seq fun K24 hK24 => ?_
    refine T.region ?_
    refine rs rfl rfl (ok_load rfl ti_api_Conf rfl rfl) ?_
    refine rs rfl rfl (ok_store rfl ti_api_Conf (by decide) rfl rfl rfl rfl rfl (by first | exact Nat.le_of_ble_eq_true rfl | simp) (by first | exact .inl ⟨rfl, rfl⟩ | exact .inr rfl)) ?_
    refine rs rfl rfl (ok_move (.inr rfl)) ?_
    refine ro_nil ?_
    refine keepK hK24 [2, 3] (by dsimp) (by dsimp) ?_
    refine T.ret (hQ _ _ _ rfl ?_).1 -- ret 6
    exact by first | (exact absurd hc (by decide)) | (rw [getC_form (by omega) (by omega)]; exact TEnt.fin [] (by decide) (by simp) rfl ⟨rfl, trivial⟩) | (rw [getC_err (by omega)]; exact TEnt.fin [] (by decide) (by simp) rfl ⟨rfl, trivial⟩) | (rw [getC_ok (by omega) (by omega)]; exact TEnt.fin [] (by decide) (by simp) rfl ⟨rfl, trivial⟩)
def inR (a b x : Int) : Bool := decide (a ≤ x ∧ x ≤ b)
theorem ri_encs {L : List Int} {rest : List Int} {n : Nat} {x lo hi : Int} (hx : L[n]? = some x) (hv : I64 x) : ri (encs L ++ rest) (8 * n) 0 lo hi = (8 * n + 8, if x < lo ∨ hi < x then 13 else 0, if x < lo ∨ hi < x then 0 else x) := by
  have hn := (List.getElem?_eq_some_iff.1 hx).1
  have hL : L = L.take n ++ x :: L.drop (n + 1) := by
    have hxx : L[n] = x := (List.getElem?_eq_some_iff.1 hx).2
    rw [← hxx, ← List.drop_eq_getElem_cons hn, List.take_append_drop]
  refine ri_enc (a := encs (L.take n)) (b := encs (L.drop (n + 1)) ++ rest) (by rw [encs_len, List.length_take]; omega) ?_ hv
  conv => lhs; rw [hL]
  rw [encs_append]
  simp [encs]
theorem rdN_encs {L : List Int} {rest : List Int} {a b : Int} (hI : ∀ x ∈ L, I64 x) : ∀ n, n ≤ L.length →
    (((L.take n).all (inR a b) = true → rdN (encs L ++ rest) a b n = (8 * n, 0) ∧ ∀ j, j < n → rdV (encs L ++ rest) a b j = L.getD j 0) ∧ ((L.take n).all (inR a b) = false → (rdN (encs L ++ rest) a b n).2 ≠ 0))
  | 0, _ => ⟨fun _ => ⟨rfl, fun j hj => absurd hj (Nat.not_lt_zero _)⟩, fun h => by simp at h⟩
  | n + 1, h => by
    obtain ⟨ih1, ih2⟩ := rdN_encs (rest := rest) (a := a) (b := b) hI n (by omega)
    obtain ⟨x, hx⟩ : ∃ x, L[n]? = some x := ⟨_, List.getElem?_eq_getElem (by omega)⟩
    have hxI := hI x (List.mem_of_getElem? hx)
    have htk : (L.take (n + 1)).all (inR a b) = ((L.take n).all (inR a b) && inR a b x) := by rw [take_succ_get hx, List.all_append]; simp
    have hgd : L.getD n 0 = x := by rw [List.getD_eq_getElem?_getD, hx]; rfl
    cases hb : (L.take n).all (inR a b)
    · have hne := ih2 hb
      rw [hb] at htk
      refine ⟨fun h => (by rw [htk] at h; cases h), fun _ => ?_⟩
      show (ri _ _ (rdN (encs L ++ rest) a b n).2 a b).2.1 ≠ 0
      unfold ri
      rw [if_pos hne]
      exact hne
    · obtain ⟨h1, h2⟩ := ih1 hb
      have hr := ri_encs (rest := rest) (lo := a) (hi := b) hx hxI
      have hrd : rdN (encs L ++ rest) a b (n + 1) = (8 * n + 8, if x < a ∨ b < x then 13 else 0) := by
        show ((ri _ (rdN (encs L ++ rest) a b n).1 (rdN (encs L ++ rest) a b n).2 a b).1, (ri _ (rdN (encs L ++ rest) a b n).1 (rdN (encs L ++ rest) a b n).2 a b).2.1) = _
        rw [h1, hr]
      have hrv : rdV (encs L ++ rest) a b n = if x < a ∨ b < x then 0 else x := by
        show (ri _ (rdN (encs L ++ rest) a b n).1 (rdN (encs L ++ rest) a b n).2 a b).2.2 = _
        rw [h1, hr]
      rw [hb, Bool.true_and] at htk
      rw [htk, hrd]
      by_cases ho : x < a ∨ b < x
      · have : inR a b x = false := by simp [inR]; omega
        rw [if_pos ho]
        exact ⟨fun h => (by rw [this] at h; cases h), fun _ => by simp⟩
      · have : inR a b x = true := by simp [inR]; omega
        rw [if_neg ho]
        refine ⟨fun _ => ⟨rfl, fun j hj => ?_⟩, fun h => (by rw [this] at h; cases h)⟩
        rcases Nat.lt_or_ge j n with hjn | hjn
        · exact h2 j hjn
        · obtain rfl : j = n := by omega
          rw [hrv, if_neg ho, hgd]
theorem cf11_eq {f : Nat → Int} {c : Cf} (h : ∀ j, j < 11 → f j = c.l.getD j 0) : cf11 f = c := by
  cases c
  simp only [cf11, Cf.mk.injEq]
  exact ⟨h 0 (by decide), h 1 (by decide), h 2 (by decide), h 3 (by decide), h 4 (by decide), h 5 (by decide), h 6 (by decide), h 7 (by decide), h 8 (by decide), h 9 (by decide), h 10 (by decide)⟩
theorem getC_of {l : List Int} {c : Cf} {n : Nat} (h3 : rdN l gA gB 11 = (n, 0)) (hl : l.length = n) (h4 : ∀ j, j < 11 → rdV l gA gB j = c.l.getD j 0) : getC l = (c, 0) := by
  rw [getC_ok (by rw [h3]; simp) (by rw [h3, hl]; exact Nat.lt_irrefl _), cf11_eq h4]
theorem getC_no {l : List Int} (h : (rdN l gA gB 11).2 ≠ 0) : (getC l).2 ≠ 0 := by
  rw [getC_err h]; exact h
theorem getC_put {c : Cf} (hI : ∀ x ∈ c.l, I64 x) : (c.l.all (inR gA gB) = true → getC (encs c.l) = (c, 0)) ∧ (c.l.all (inR gA gB) = false → (getC (encs c.l)).2 ≠ 0) := by
  obtain ⟨k, hk⟩ : ∃ k, c.l.length = k := ⟨_, rfl⟩
  have hk11 : 11 = k := hk
  have h := rdN_encs (rest := []) (a := gA) (b := gB) hI k (Nat.le_of_eq hk.symm)
  rw [List.take_of_length_le (Nat.le_of_eq hk), List.append_nil] at h
  have hlen : (encs c.l).length = 8 * k := by rw [encs_len, hk]
  generalize encs c.l = l at h hlen ⊢
  subst hk11
  obtain ⟨h1, h2⟩ := h
  exact ⟨fun h => getC_of (h1 h).1 hlen (h1 h).2, fun h => getC_no (h2 h)⟩
end Go.Proofs.YtjklgbafnfoolaaGreat.AmF
namespace Go.Proofs.YtjklgbafnfoolaaGreat.AmF
open Go Go.AM
set_option maxRecDepth 100000
set_option linter.unusedSimpArgs false
set_option linter.unusedVariables false
attribute [local simp] tkeep tget tput ev cav argsTM pickA normT putA splice AV.cells ints_length rowsA_length enc_len
theorem rbytesput_new (l : List Int) (hl : l.length ≤ 100000000) : CSpec Tryz.prog 50 [] [.fz 1 (ints .u8 l)] [some ⟨1, true, ints .u8 (enc l.length 8 ++ l)⟩] (.sl 0 0 (enc l.length 8 ++ l).length) := by
 refine CSpec.body Tryz.func50 rfl rfl rfl rfl rfl fun Q hQ => ?_
 refine T.seq fun K1 hK1 => ?_
 refine T.region ?_
 refine rs rfl rfl (ok_move (.inr rfl)) ?_
 refine ro_nil ?_
 refine keepK hK1 [0] (by dsimp) (by dsimp) ?_
 refine T.seq fun K2 hK2 => ?_
 refine T.region ?_
 refine rs rfl rfl (ok_move (.inl rfl)) ?_
 refine rs rfl rfl (ok_len' rfl rfl ti_Luint8 rfl (by first | exact ints_length _ _ | exact rowsA_length _ _ | exact Cms_len _ | exact mapLen _ | rfl)) ?_
 refine ro rfl rfl (ok_call rfl rfl rfl ((rint_new l.length).fresh (x' := .sl 0 0 8) (H' := [some ⟨1, true, ints .u8 (enc l.length 8)⟩]) rfl rfl (by simp [renH, Blk.ren, renL_ints]))) ?_
 refine rs rfl rfl (ok_move (.inl rfl)) ?_
 refine rs rfl rfl (by exact ok_append_ints (k := .u8) (xs := enc l.length 8) (ys := l) rfl ti_Luint8 rfl ti_uint8 rfl (by decide) rfl ti_Luint8 (by simp) rfl rfl rfl rfl rfl rfl rfl rfl rfl (by simp; omega)) ?_
 refine rs rfl rfl (ok_move (.inr rfl)) ?_
 refine ro_nil ?_
 refine keepK hK2 [2] (by dsimp) (by dsimp) ?_
 refine T.ret (hQ _ _ _ rfl ?_).1 -- ret 1
 exact TEnt.fin [1] (by decide) (by simp) (by simp [normH, hget, Blk.ren, renL_ints]) ⟨rfl, trivial⟩
theorem rbytesput_frz {l r : List Int} (hr : enc l.length 8 ++ l = r) (hl : l.length ≤ 100000000) : CSpec Tryz.prog 50 [] [.fz 1 (ints .u8 l)] [] (.fz 1 (ints .u8 r)) := (rbytesput_new l hl).frz' hr
theorem R_ren (ρ : Nat → Option Nat) (l : List Int) (p : Nat) (e : Int) : Blk.ren ρ (R l p e) = R l p e := by simp [R, Blk.ren, renL, AV.ren, renL_ints]
/-- A call that is handed a reader. -/
theorem _root_.Go.AM.CSpec.passR {H : Heap} {f : FuncId} {l l' : List Int} {p p' : Nat} {e e' : Int} {args args' : List AV} {x : AV} (h : CSpec Tryz.prog f [R l p e] args' [some (R l' p' e')] x) (id : Nat) (hg : hget H id = some (R l p e)) (ha : renL (pos [id]) args = args') (hx : ∀ ρ, x.ren ρ = x) :
    CallOk Tryz.prog f H args x (H.set id (some (R l' p' e'))) := by
  have hid := hget_lt hg
  have := h.pass (H := H) (args := args) [id] (by simp) (by simpa using hid) (by simp [normH, hg, R_ren]) ha
  exact this.eq (hx _) (by simp [mergeH, setIds, renH, R_ren])
end Go.Proofs.YtjklgbafnfoolaaGreat.AmF
