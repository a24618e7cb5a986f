/- Walks over the abstract machine: states of the log: which may be. -/
import Derived.Test.YtlegolcbjjjofaaAfState2
namespace Go.Proofs.Ytlegolcbjjjofaa.AmF
open Go Go.AM
set_option maxRecDepth 100000
set_option maxHeartbeats 2000000
set_option linter.unusedSimpArgs false
set_option linter.unusedVariables false
attribute [local simp] tkeep tget tput ev cav argsTM pickA normT putA splice AV.cells ints_length rowsA_length Prs_len Zns_len
/-- No slot is had twice. -/
def DS (zs : List Zn) : Prop := zs.Pairwise fun a b => a.slot = b.slot → b.slot = -1
instance (zs : List Zn) : Decidable (DS zs) := by unfold DS; infer_instance
/-- A state that may be. -/
def RS (s : St) : Prop := chkC s.c = 0 ∧ (1 ≤ s.ep ∧ s.ep ≤ 1099511627776) ∧ (0 ≤ s.sq ∧ s.sq ≤ 1099511627776) ∧ (s.st.length : Int) = s.c.mem ∧ (s.zs.length : Int) = s.c.zon ∧ (∀ n ∈ s.st, 0 ≤ n ∧ n ≤ 2) ∧ s.st.countP oddP ≤ 1 ∧ (∀ z ∈ s.zs, RZ s.c (decide (2 ∈ s.st)) z) ∧ DS s.zs
instance (s : St) : Decidable (RS s) := by unfold RS; infer_instance
/-- The slots that were seen. -/
def seenZ (l : List Zn) : List Int := l.foldl (fun ks z => mput ks z.slot) []
theorem seenZ_snoc (l : List Zn) (z : Zn) : seenZ (l ++ [z]) = mput (seenZ l) z.slot := by simp [seenZ]
theorem seenZ_go (l : List Zn) : ∀ (ks : List Int) (n : Int), n ∈ l.foldl (fun ks z => mput ks z.slot) ks ↔ n ∈ ks ∨ ∃ z ∈ l, z.slot = n := by
  induction l with
  | nil => intro ks n; simp
  | cons z l ih =>
    intro ks n
    rw [List.foldl_cons, ih, mput_mem]
    constructor
    · rintro ((h | h) | ⟨y, hy, h⟩)
      · exact .inr ⟨z, List.mem_cons_self .., h.symm⟩
      · exact .inl h
      · exact .inr ⟨y, List.mem_cons_of_mem _ hy, h⟩
    · rintro (h | ⟨y, hy, h⟩)
      · exact .inl (.inr h)
      · rcases List.mem_cons.1 hy with e | hy
        · subst e; exact .inl (.inl h.symm)
        · exact .inr ⟨y, hy, h⟩
theorem seenZ_mem {l : List Zn} {n : Int} : n ∈ seenZ l ↔ ∃ z ∈ l, z.slot = n := by
  unfold seenZ
  rw [seenZ_go]
  simp
theorem DS_snoc {l : List Zn} {z : Zn} (h : DS l) (hz : z.slot = -1 ∨ z.slot ∉ seenZ l) : DS (l ++ [z]) := by
  unfold DS at *
  rw [List.pairwise_append]
  refine ⟨h, List.pairwise_singleton _ _, fun a ha b hb e => ?_⟩
  rw [List.mem_singleton.1 hb] at e ⊢
  rcases hz with h1 | h1
  · exact h1
  · exact absurd (seenZ_mem.2 ⟨a, ha, e⟩) h1
theorem DS_no {l : List Zn} {z : Zn} {i : Nat} (hx : l[i]? = some z) (h1 : z.slot ≠ -1) (h2 : z.slot ∈ seenZ (l.take i)) : ¬ DS l := by
  intro h
  obtain ⟨a, ha, e⟩ := seenZ_mem.1 h2
  have h3 : DS (l.take (i + 1)) := List.Pairwise.sublist (List.take_sublist _ _) h
  rw [take_succ_get hx] at h3
  unfold DS at h3
  rw [List.pairwise_append] at h3
  exact h1 (h3.2.2 a ha z (List.mem_singleton.2 rfl) e)
theorem countP_take_le {l : List Int} (i : Nat) : (l.take i).countP oddP ≤ l.length := Nat.le_trans List.countP_le_length (by simp; omega)
theorem RS_st {s : St} {i : Nat} {n : Int} (hx : s.st[i]? = some n) (h : ¬ (0 ≤ n ∧ n ≤ 2)) : ¬ RS s := fun ⟨_, _, _, _, _, h', _⟩ => h (h' n (List.mem_of_getElem? hx))
theorem RS_zn {s : St} {i : Nat} {z : Zn} (hx : s.zs[i]? = some z) (h : ¬ RZ s.c (decide (2 ∈ s.st)) z) : ¬ RS s := fun ⟨_, _, _, _, _, _, _, h', _⟩ => h (h' z (List.mem_of_getElem? hx))
theorem RS_ds {s : St} (h : ¬ DS s.zs) : ¬ RS s := fun ⟨_, _, _, _, _, _, _, _, h'⟩ => h h'
theorem RS_last {s : St} (h1 : chkC s.c = 0 ∧ (1 ≤ s.ep ∧ s.ep ≤ 1099511627776) ∧ (0 ≤ s.sq ∧ s.sq ≤ 1099511627776) ∧ (s.st.length : Int) = s.c.mem ∧ (s.zs.length : Int) = s.c.zon) (h2 : ∀ n ∈ s.st, 0 ≤ n ∧ n ≤ 2) (h3 : ∀ z ∈ s.zs, RZ s.c (decide (2 ∈ s.st)) z) (h4 : DS s.zs) : decide (RS s) = decide (((s.st.countP oddP : Nat) : Int) ≤ 1) := by
  rw [decide_eq_decide]
  obtain ⟨a, b, c, d, e⟩ := h1
  constructor
  · rintro ⟨_, _, _, _, _, _, h, _⟩; omega
  · intro h; exact ⟨a, b, c, d, e, h2, by omega, h3, h4⟩
theorem countP_snoc {l : List Int} {i : Nat} {n : Int} (hx : l[i]? = some n) : (l.take (i + 1)).countP oddP = (l.take i).countP oddP + if oddP n then 1 else 0 := by
  rw [take_succ_get hx, List.countP_append]
  simp [List.countP_cons]
theorem all_snoc {α : Type} {p : α → Prop} {l : List α} {i : Nat} {x : α} (hx : l[i]? = some x) (h : ∀ y ∈ l.take i, p y) (hp : p x) : ∀ y ∈ l.take (i + 1), p y := by
  rw [take_succ_get hx]
  intro y hy
  rcases List.mem_append.1 hy with hy | hy
  · exact h y hy
  · rw [List.mem_singleton.1 hy]; exact hp
theorem sright_ok (s : St) (hn : s.st.length ≤ 140737488355328) (hm : s.zs.length ≤ 140737488355328) (hl : ∀ z ∈ s.zs, z.pars.length ≤ 140737488355328) : CSpec Try.prog 59 [] [.agg (StC s)] [] (.b (decide (RS s))) := by
 refine CSpec.body Try.func59 rfl rfl rfl rfl rfl fun Q hQ => ?_
 refine T.seq fun K1 hK1 => ?_
 refine T.region ?_ -- region 0
 refine ro rfl rfl (OpOk.step (ok_box (n := 15) rfl rfl (by decide))) ?_
 refine ro rfl rfl (OpOk.step (ok_moveb (c := false) (.inr rfl) rfl)) ?_
 refine ro_nil ?_
 refine keepK hK1 [1] (by dsimp) (by dsimp) ?_
 refine T.seq fun K2 hK2 => ?_
 refine T.region ?_ -- region 1
 refine ro rfl rfl (OpOk.step (ok_fieldAddr rfl ti_api_State rfl rfl ti_api_Conf (by decide) rfl)) ?_
 refine ro rfl rfl (OpOk.step (ok_load rfl ti_api_Conf rfl rfl)) ?_
 refine ro rfl rfl (OpOk.step (ok_alloc rfl ti_api_Conf rfl (by decide))) ?_
 refine ro rfl rfl (OpOk.step (ok_store rfl ti_api_Conf (by decide) rfl rfl rfl rfl rfl (by first | exact Nat.le_of_ble_eq_true rfl | simp) (by first | exact .inl ⟨rfl, rfl⟩ | exact .inr rfl))) ?_
 refine ro_nil ?_
 refine keepK hK2 [1, 3] (by dsimp) (by dsimp) ?_
 refine T.seq fun K3 hK3 => ?_
 refine T.seq fun K4 hK4 => ?_
 refine T.region ?_ -- region 2
 refine ro rfl rfl (OpOk.step (ok_load rfl ti_api_Conf rfl rfl)) ?_
 refine ro rfl rfl (ok_call rfl rfl rfl ((check_ok s.c).plain (by show renL _ [.agg (CC s.c)] = _; simp [renL, AV.ren, CC_ren]) rfl)) ?_
 refine ro rfl rfl (OpOk.step (ok_binOp rfl ti_api_Errno rfl)) ?_
 refine ro_case rfl rfl (OpOk.step (ok_moveb (.inl rfl) rfl)) (fun hb => ?_) (fun hb => ?_)
 ·(try simp only [dE] at hb)
  refine ro_skip rfl rfl ?_
  refine ro_skip rfl rfl ?_
  refine ro_skip rfl rfl ?_
  refine ro_skip rfl rfl ?_
  refine ro rfl rfl (OpOk.step (ok_pickb (t := true) (d := true) rfl rfl rfl)) ?_
  refine ro rfl rfl (OpOk.step (ok_moveb (c := true) (.inl rfl) rfl)) ?_
  refine ro_skip rfl rfl ?_
  refine ro_skip rfl rfl ?_
  refine ro_skip rfl rfl ?_
  refine ro_skip rfl rfl ?_
  refine ro rfl rfl (OpOk.step (ok_pickb (t := true) (d := true) rfl rfl rfl)) ?_
  refine ro rfl rfl (OpOk.step (ok_moveb (c := true) (.inl rfl) rfl)) ?_
  refine ro_skip rfl rfl ?_
  refine ro_skip rfl rfl ?_
  refine ro_skip rfl rfl ?_
  refine ro_skip rfl rfl ?_
  refine ro_skip rfl rfl ?_
  refine ro_skip rfl rfl ?_
  refine ro rfl rfl (OpOk.step (ok_pickb (t := true) (d := true) rfl rfl rfl)) ?_
  refine ro rfl rfl (OpOk.step (ok_moveb (c := true) (.inl rfl) rfl)) ?_
  refine ro_skip rfl rfl ?_
  refine ro_skip rfl rfl ?_
  refine ro_skip rfl rfl ?_
  refine ro_skip rfl rfl ?_
  refine ro_skip rfl rfl ?_
  refine ro_skip rfl rfl ?_
  refine ro rfl rfl (OpOk.step (ok_pickb (t := true) (d := true) rfl rfl rfl)) ?_
  refine ro_nil ?_
  refine keepK hK4 [1, 43] (by dsimp) (by dsimp) ?_
  refine T.cond_true rfl ?_
  refine T.seq fun K5 hK5 => ?_
  refine T.region ?_ -- region 3
  refine ro rfl rfl (OpOk.step (ok_moveb (c := false) (.inr rfl) rfl)) ?_
  refine ro_nil ?_
  refine keepK hK5 [2] (by dsimp) (by dsimp) ?_
  refine T.ret (hQ _ _ _ rfl ?_).1 -- ret 1
  exact by first
    | (rw [RS_last hhead hall hzs hds]; exact TEnt.fin [] (by decide) (by simp) rfl ⟨rfl, trivial⟩)
  
    | (rw [decide_eq_false (fun h => by obtain ⟨h1, h2, h3, h4, h5, h⟩ := h; omega)]; exact TEnt.fin [] (by decide) (by simp) rfl ⟨rfl, trivial⟩)
    | (rw [decide_eq_false (RS_st (by assumption) (by assumption))]; exact TEnt.fin [] (by decide) (by simp) rfl ⟨rfl, trivial⟩)
    | (rw [decide_eq_false (RS_zn hz (by assumption))]; exact TEnt.fin [] (by decide) (by simp) rfl ⟨rfl, trivial⟩)
    | (rw [decide_eq_false (RS_ds (DS_no hz (by assumption) (by assumption)))]; exact TEnt.fin [] (by decide) (by simp) rfl ⟨rfl, trivial⟩)
    | (rw [decide_eq_false hno]; exact TEnt.fin [] (by decide) (by simp) rfl ⟨rfl, trivial⟩)
 ·(try simp only [dE] at hb)
  refine ro rfl rfl (OpOk.step (ok_fieldAddr rfl ti_api_State rfl rfl ti_int (by decide) rfl)) ?_
  refine ro rfl rfl (OpOk.step (ok_load rfl ti_int rfl rfl)) ?_
  refine ro rfl rfl (ok_call rfl rfl rfl ((sin_ok s.ep 1 1099511627776).plain rfl rfl)) ?_
  refine ro rfl rfl (OpOk.step (ok_unOp rfl rfl)) ?_
  refine ro rfl rfl (OpOk.step (ok_pick rfl rfl)) ?_
  refine ro_case rfl rfl (OpOk.step (ok_moveb (.inl rfl) rfl)) (fun hb => ?_) (fun hb => ?_)
  ·(try simp only [dE] at hb)
   refine ro_skip rfl rfl ?_
   refine ro_skip rfl rfl ?_
   refine ro_skip rfl rfl ?_
   refine ro_skip rfl rfl ?_
   refine ro rfl rfl (OpOk.step (ok_pickb (t := true) (d := true) rfl rfl rfl)) ?_
   refine ro rfl rfl (OpOk.step (ok_moveb (c := true) (.inl rfl) rfl)) ?_
   refine ro_skip rfl rfl ?_
   refine ro_skip rfl rfl ?_
   refine ro_skip rfl rfl ?_
   refine ro_skip rfl rfl ?_
   refine ro_skip rfl rfl ?_
   refine ro_skip rfl rfl ?_
   refine ro rfl rfl (OpOk.step (ok_pickb (t := true) (d := true) rfl rfl rfl)) ?_
   refine ro rfl rfl (OpOk.step (ok_moveb (c := true) (.inl rfl) rfl)) ?_
   refine ro_skip rfl rfl ?_
   refine ro_skip rfl rfl ?_
   refine ro_skip rfl rfl ?_
   refine ro_skip rfl rfl ?_
   refine ro_skip rfl rfl ?_
   refine ro_skip rfl rfl ?_
   refine ro rfl rfl (OpOk.step (ok_pickb (t := true) (d := true) rfl rfl rfl)) ?_
   refine ro_nil ?_
   refine keepK hK4 [1, 43] (by dsimp) (by dsimp) ?_
   refine T.cond_true rfl ?_
   refine T.seq fun K6 hK6 => ?_
   refine T.region ?_ -- region 3
   refine ro rfl rfl (OpOk.step (ok_moveb (c := false) (.inr rfl) rfl)) ?_
   refine ro_nil ?_
   refine keepK hK6 [2] (by dsimp) (by dsimp) ?_
   refine T.ret (hQ _ _ _ rfl ?_).1 -- ret 2
   exact by first
     | (rw [RS_last hhead hall hzs hds]; exact TEnt.fin [] (by decide) (by simp) rfl ⟨rfl, trivial⟩)
   
     | (rw [decide_eq_false (fun h => by obtain ⟨h1, h2, h3, h4, h5, h⟩ := h; omega)]; exact TEnt.fin [] (by decide) (by simp) rfl ⟨rfl, trivial⟩)
     | (rw [decide_eq_false (RS_st (by assumption) (by assumption))]; exact TEnt.fin [] (by decide) (by simp) rfl ⟨rfl, trivial⟩)
     | (rw [decide_eq_false (RS_zn hz (by assumption))]; exact TEnt.fin [] (by decide) (by simp) rfl ⟨rfl, trivial⟩)
     | (rw [decide_eq_false (RS_ds (DS_no hz (by assumption) (by assumption)))]; exact TEnt.fin [] (by decide) (by simp) rfl ⟨rfl, trivial⟩)
     | (rw [decide_eq_false hno]; exact TEnt.fin [] (by decide) (by simp) rfl ⟨rfl, trivial⟩)
  ·(try simp only [dE] at hb)
   refine ro rfl rfl (OpOk.step (ok_fieldAddr rfl ti_api_State rfl rfl ti_int (by decide) rfl)) ?_
   refine ro rfl rfl (OpOk.step (ok_load rfl ti_int rfl rfl)) ?_
   refine ro rfl rfl (ok_call rfl rfl rfl ((sin_ok s.sq 0 1099511627776).plain rfl rfl)) ?_
   refine ro rfl rfl (OpOk.step (ok_unOp rfl rfl)) ?_
   refine ro rfl rfl (OpOk.step (ok_pick rfl rfl)) ?_
   refine ro_case rfl rfl (OpOk.step (ok_moveb (.inl rfl) rfl)) (fun hb => ?_) (fun hb => ?_)
   ·(try simp only [dE] at hb)
    refine ro_skip rfl rfl ?_
    refine ro_skip rfl rfl ?_
    refine ro_skip rfl rfl ?_
    refine ro_skip rfl rfl ?_
    refine ro_skip rfl rfl ?_
    refine ro_skip rfl rfl ?_
    refine ro rfl rfl (OpOk.step (ok_pickb (t := true) (d := true) rfl rfl rfl)) ?_
    refine ro rfl rfl (OpOk.step (ok_moveb (c := true) (.inl rfl) rfl)) ?_
    refine ro_skip rfl rfl ?_
    refine ro_skip rfl rfl ?_
    refine ro_skip rfl rfl ?_
    refine ro_skip rfl rfl ?_
    refine ro_skip rfl rfl ?_
    refine ro_skip rfl rfl ?_
    refine ro rfl rfl (OpOk.step (ok_pickb (t := true) (d := true) rfl rfl rfl)) ?_
    refine ro_nil ?_
    refine keepK hK4 [1, 43] (by dsimp) (by dsimp) ?_
    refine T.cond_true rfl ?_
    refine T.seq fun K7 hK7 => ?_
    refine T.region ?_ -- region 3
    refine ro rfl rfl (OpOk.step (ok_moveb (c := false) (.inr rfl) rfl)) ?_
    refine ro_nil ?_
    refine keepK hK7 [2] (by dsimp) (by dsimp) ?_
    refine T.ret (hQ _ _ _ rfl ?_).1 -- ret 3
    exact by first
      | (rw [RS_last hhead hall hzs hds]; exact TEnt.fin [] (by decide) (by simp) rfl ⟨rfl, trivial⟩)
    
      | (rw [decide_eq_false (fun h => by obtain ⟨h1, h2, h3, h4, h5, h⟩ := h; omega)]; exact TEnt.fin [] (by decide) (by simp) rfl ⟨rfl, trivial⟩)
      | (rw [decide_eq_false (RS_st (by assumption) (by assumption))]; exact TEnt.fin [] (by decide) (by simp) rfl ⟨rfl, trivial⟩)
      | (rw [decide_eq_false (RS_zn hz (by assumption))]; exact TEnt.fin [] (by decide) (by simp) rfl ⟨rfl, trivial⟩)
      | (rw [decide_eq_false (RS_ds (DS_no hz (by assumption) (by assumption)))]; exact TEnt.fin [] (by decide) (by simp) rfl ⟨rfl, trivial⟩)
      | (rw [decide_eq_false hno]; exact TEnt.fin [] (by decide) (by simp) rfl ⟨rfl, trivial⟩)
   ·(try simp only [dE] at hb)
    refine ro rfl rfl (OpOk.step (ok_fieldAddr rfl ti_api_State rfl rfl ti_Lint (by decide) rfl)) ?_
    refine ro rfl rfl (OpOk.step (ok_load rfl ti_Lint rfl rfl)) ?_
    refine ro rfl rfl (OpOk.step (ok_len' rfl rfl ti_Lint rfl (by first | exact ints_length _ _ | exact rowsA_length _ _ | exact Cms_len _ | exact mapLen _ | rfl))) ?_
    refine ro rfl rfl (OpOk.step (ok_fieldAddr rfl ti_api_Conf rfl rfl ti_int (by decide) rfl)) ?_
    refine ro rfl rfl (OpOk.step (ok_load rfl ti_int rfl rfl)) ?_
    refine ro rfl rfl (OpOk.step (ok_binOp rfl ti_int rfl)) ?_
    refine ro rfl rfl (OpOk.step (ok_pick rfl rfl)) ?_
    refine ro_case rfl rfl (OpOk.step (ok_moveb (.inl rfl) rfl)) (fun hb => ?_) (fun hb => ?_)
    ·(try simp only [dE] at hb)
     refine ro_skip rfl rfl ?_
     refine ro_skip rfl rfl ?_
     refine ro_skip rfl rfl ?_
     refine ro_skip rfl rfl ?_
     refine ro_skip rfl rfl ?_
     refine ro_skip rfl rfl ?_
     refine ro rfl rfl (OpOk.step (ok_pickb (t := true) (d := true) rfl rfl rfl)) ?_
     refine ro_nil ?_
     refine keepK hK4 [1, 43] (by dsimp) (by dsimp) ?_
     refine T.cond_true rfl ?_
     refine T.seq fun K8 hK8 => ?_
     refine T.region ?_ -- region 3
     refine ro rfl rfl (OpOk.step (ok_moveb (c := false) (.inr rfl) rfl)) ?_
     refine ro_nil ?_
     refine keepK hK8 [2] (by dsimp) (by dsimp) ?_
     refine T.ret (hQ _ _ _ rfl ?_).1 -- ret 4
     exact by first
       | (rw [RS_last hhead hall hzs hds]; exact TEnt.fin [] (by decide) (by simp) rfl ⟨rfl, trivial⟩)
     
       | (rw [decide_eq_false (fun h => by obtain ⟨h1, h2, h3, h4, h5, h⟩ := h; omega)]; exact TEnt.fin [] (by decide) (by simp) rfl ⟨rfl, trivial⟩)
       | (rw [decide_eq_false (RS_st (by assumption) (by assumption))]; exact TEnt.fin [] (by decide) (by simp) rfl ⟨rfl, trivial⟩)
       | (rw [decide_eq_false (RS_zn hz (by assumption))]; exact TEnt.fin [] (by decide) (by simp) rfl ⟨rfl, trivial⟩)
       | (rw [decide_eq_false (RS_ds (DS_no hz (by assumption) (by assumption)))]; exact TEnt.fin [] (by decide) (by simp) rfl ⟨rfl, trivial⟩)
       | (rw [decide_eq_false hno]; exact TEnt.fin [] (by decide) (by simp) rfl ⟨rfl, trivial⟩)
    ·(try simp only [dE] at hb)
     refine ro rfl rfl (OpOk.step (ok_fieldAddr rfl ti_api_State rfl rfl ti_Lapi_Zone (by decide) rfl)) ?_
     refine ro rfl rfl (OpOk.step (ok_load rfl ti_Lapi_Zone rfl rfl)) ?_
     refine ro rfl rfl (OpOk.step (ok_len' rfl rfl ti_Lapi_Zone rfl (by first | exact ints_length _ _ | exact rowsA_length _ _ | exact Cms_len _ | exact mapLen _ | rfl))) ?_
     refine ro rfl rfl (OpOk.step (ok_fieldAddr rfl ti_api_Conf rfl rfl ti_int (by decide) rfl)) ?_
     refine ro rfl rfl (OpOk.step (ok_load rfl ti_int rfl rfl)) ?_
     refine ro rfl rfl (OpOk.step (ok_binOp rfl ti_int rfl)) ?_
     refine ro rfl rfl (OpOk.step (ok_pick rfl rfl)) ?_
     refine ro_nil ?_
     refine keepK hK4 [1, 43] (by dsimp) (by dsimp) ?_
     refine T.cond rfl (fun hc => ?_) (fun hc => ?_) -- cond 1
     ·(try simp only [dE] at hc)
      try rw [Zns_len] at hc
      refine T.seq fun K9 hK9 => ?_
      refine T.region ?_ -- region 3
      refine ro rfl rfl (OpOk.step (ok_moveb (c := false) (.inr rfl) rfl)) ?_
      refine ro_nil ?_
      refine keepK hK9 [2] (by dsimp) (by dsimp) ?_
      refine T.ret (hQ _ _ _ rfl ?_).1 -- ret 5
      exact by first
        | (rw [RS_last hhead hall hzs hds]; exact TEnt.fin [] (by decide) (by simp) rfl ⟨rfl, trivial⟩)
      
        | (rw [decide_eq_false (fun h => by obtain ⟨h1, h2, h3, h4, h5, h⟩ := h; omega)]; exact TEnt.fin [] (by decide) (by simp) rfl ⟨rfl, trivial⟩)
        | (rw [decide_eq_false (RS_st (by assumption) (by assumption))]; exact TEnt.fin [] (by decide) (by simp) rfl ⟨rfl, trivial⟩)
        | (rw [decide_eq_false (RS_zn hz (by assumption))]; exact TEnt.fin [] (by decide) (by simp) rfl ⟨rfl, trivial⟩)
        | (rw [decide_eq_false (RS_ds (DS_no hz (by assumption) (by assumption)))]; exact TEnt.fin [] (by decide) (by simp) rfl ⟨rfl, trivial⟩)
        | (rw [decide_eq_false hno]; exact TEnt.fin [] (by decide) (by simp) rfl ⟨rfl, trivial⟩)
     ·(try simp only [dE] at hc)
      try rw [Zns_len] at hc
      have hhead : chkC s.c = 0 ∧ (1 ≤ s.ep ∧ s.ep ≤ 1099511627776) ∧ (0 ≤ s.sq ∧ s.sq ≤ 1099511627776) ∧ (s.st.length : Int) = s.c.mem ∧ (s.zs.length : Int) = s.c.zon := by omega
      have hck := hhead.1
      refine T.skip ?_
      refine keepK hK3 [1] (by dsimp) (by dsimp) ?_
      refine T.seq fun K10 hK10 => ?_
      refine T.region ?_ -- region 4
      refine ro rfl rfl (OpOk.step (ok_move (.inr rfl))) ?_
      refine ro_nil ?_
      refine keepK hK10 [1, 4] (by dsimp) (by dsimp) ?_
      refine T.seq fun K11 hK11 => ?_
      refine T.seq fun K12 hK12 => ?_
      refine T.region ?_ -- region 5
      refine ro rfl rfl (OpOk.step (ok_fieldAddr rfl ti_api_State rfl rfl ti_Lint (by decide) rfl)) ?_
      refine ro rfl rfl (OpOk.step (ok_load rfl ti_Lint rfl rfl)) ?_
      refine ro rfl rfl (OpOk.step (ok_len' rfl rfl ti_Lint rfl (by first | exact ints_length _ _ | exact rowsA_length _ _ | exact Cms_len _ | exact mapLen _ | rfl))) ?_
      refine ro rfl rfl (OpOk.step (ok_move (.inl rfl))) ?_
      refine ro_nil ?_
      refine keepK hK12 [1, 4, 45, 46, 47] (by dsimp) (by dsimp) ?_
      refine T.block ?_
      refine T.loopI (ι := Nat) (fun i => i ≤ s.st.length ∧ ∀ n ∈ s.st.take i, 0 ≤ n ∧ n ≤ 2) (fun i => s.st.length - i) (fun i => ([(1, .ref 0 0 0), (4, .int ((s.st.take i).countP oddP)), (45, .fz 1 (ints .i64 s.st)), (46, .int s.st.length), (47, .int i)], [some (StB s), some (CB s.c)])) 0 ⟨Nat.zero_le _, fun y hy => by simp at hy⟩ (TEnt.toH rfl ⟨rfl, rfl, rfl, rfl, rfl, trivial⟩) (fun i hi => ?_) -- loop 1
      obtain ⟨hil, hall⟩ := hi
      refine T.seq fun K13 hK13 => ?_
      refine T.region ?_ -- region 6
      refine ro rfl rfl (OpOk.step (ok_binOp rfl ti_int rfl)) ?_
      refine ro_nil ?_
      refine keepK hK13 [1, 4, 45, 46, 47, 48] (by dsimp) (by dsimp) ?_
      refine T.seq fun K14 hK14 => ?_
      refine T.cond rfl (fun hc => ?_) (fun hc => ?_) -- cond 2
      ·(try simp only [dE] at hc)
       obtain ⟨n, hin⟩ : ∃ n, s.st[i]? = some n := ⟨_, List.getElem?_eq_getElem (by omega)⟩
       have hcl := countP_take_le (l := s.st) i
       refine T.skip ?_
       refine keepK hK14 [1, 4, 45, 46, 47] (by dsimp) (by dsimp) ?_
       refine T.seq fun K15 hK15 => ?_
       refine T.block ?_
       refine T.seq fun K16 hK16 => ?_
       refine T.region ?_ -- region 7
       refine ro rfl rfl (OpOk.step (by exact ok_index_ints rfl ti_Lint rfl ti_int rfl rfl rfl (by omega) (by simpa using hin))) ?_
       refine ro rfl rfl (OpOk.step (ok_load rfl ti_int rfl rfl)) ?_
       refine ro rfl rfl (OpOk.step (ok_move (.inr rfl))) ?_
       refine ro_nil ?_
       refine keepK hK16 [1, 4, 6, 45, 46, 47] (by dsimp) (by dsimp) ?_
       refine T.seq fun K17 hK17 => ?_
       refine T.seq fun K18 hK18 => ?_
       refine T.region ?_ -- region 8
       refine ro rfl rfl (OpOk.step (ok_move (.inl rfl))) ?_
       refine ro rfl rfl (ok_call rfl rfl rfl ((sin_ok n 0 2).plain rfl rfl)) ?_
       refine ro rfl rfl (OpOk.step (ok_unOp rfl rfl)) ?_
       refine ro_nil ?_
       refine keepK hK18 [1, 4, 6, 45, 46, 47, 53] (by dsimp) (by dsimp) ?_
       refine T.cond rfl (fun hc => ?_) (fun hc => ?_) -- cond 3
       ·(try simp only [dE] at hc)
        have hno := RS_st hin (by omega)
        refine T.seq fun K19 hK19 => ?_
        refine T.region ?_ -- region 9
        refine ro rfl rfl (OpOk.step (ok_moveb (c := false) (.inr rfl) rfl)) ?_
        refine ro_nil ?_
        refine keepK hK19 [2] (by dsimp) (by dsimp) ?_
        refine T.ret (hQ _ _ _ rfl ?_).1 -- ret 6
        exact by first
          | (rw [RS_last hhead hall hzs hds]; exact TEnt.fin [] (by decide) (by simp) rfl ⟨rfl, trivial⟩)
        
          | (rw [decide_eq_false (fun h => by obtain ⟨h1, h2, h3, h4, h5, h⟩ := h; omega)]; exact TEnt.fin [] (by decide) (by simp) rfl ⟨rfl, trivial⟩)
          | (rw [decide_eq_false (RS_st (by assumption) (by assumption))]; exact TEnt.fin [] (by decide) (by simp) rfl ⟨rfl, trivial⟩)
          | (rw [decide_eq_false (RS_zn hz (by assumption))]; exact TEnt.fin [] (by decide) (by simp) rfl ⟨rfl, trivial⟩)
          | (rw [decide_eq_false (RS_ds (DS_no hz (by assumption) (by assumption)))]; exact TEnt.fin [] (by decide) (by simp) rfl ⟨rfl, trivial⟩)
          | (rw [decide_eq_false hno]; exact TEnt.fin [] (by decide) (by simp) rfl ⟨rfl, trivial⟩)
       ·(try simp only [dE] at hc)
        refine T.skip ?_
        refine keepK hK17 [1, 4, 6, 45, 46, 47] (by dsimp) (by dsimp) ?_
        refine T.seq fun K20 hK20 => ?_
        refine T.region ?_ -- region 10
        refine ro rfl rfl (OpOk.step (ok_move (.inl rfl))) ?_
        refine ro rfl rfl (OpOk.step (ok_binOp rfl ti_int rfl)) ?_
        refine ro_nil ?_
        refine keepK hK20 [1, 4, 45, 46, 47, 55] (by dsimp) (by dsimp) ?_
        refine T.cond rfl (fun hc => ?_) (fun hc => ?_) -- cond 4
        ·(try simp only [dE] at hc)
         have hcs := countP_snoc hin
         rw [show oddP n = true by simp [oddP]; omega, if_pos rfl] at hcs
         refine T.region ?_ -- region 11
         refine ro rfl rfl (OpOk.step (ok_move (.inl rfl))) ?_
         refine ro rfl rfl (OpOk.step (ok_add64 rfl ti_int rfl rfl (by omega) (by omega))) ?_
         refine ro rfl rfl (OpOk.step (ok_move (.inr rfl))) ?_
         refine ro_nil ?_
         refine keepK hK15 [1, 4, 45, 46, 47] (by dsimp) (by dsimp) ?_
         refine T.region ?_ -- region 12
         refine ro rfl rfl (OpOk.step (ok_add64 rfl ti_int rfl rfl (by omega) (by omega))) ?_
         refine ro rfl rfl (OpOk.step (ok_move (.inl rfl))) ?_
         refine ro_nil ?_
         exact ⟨i + 1, ⟨by omega, all_snoc hin hall (by omega)⟩, by omega, TEnt.toH rfl ⟨rfl, by simp [hcs], rfl, rfl, rfl, trivial⟩⟩
        ·(try simp only [dE] at hc)
         have hcs := countP_snoc hin
         rw [show oddP n = false by simp [oddP]; omega, if_neg (by decide)] at hcs
         refine T.skip ?_
         refine keepK hK15 [1, 4, 45, 46, 47] (by dsimp) (by dsimp) ?_
         refine T.region ?_ -- region 12
         refine ro rfl rfl (OpOk.step (ok_add64 rfl ti_int rfl rfl (by omega) (by omega))) ?_
         refine ro rfl rfl (OpOk.step (ok_move (.inl rfl))) ?_
         refine ro_nil ?_
         exact ⟨i + 1, ⟨by omega, all_snoc hin hall (by omega)⟩, by omega, TEnt.toH rfl ⟨rfl, by simp [hcs], rfl, rfl, rfl, trivial⟩⟩
      ·(try simp only [dE] at hc)
       have hin : i = s.st.length := by omega
       subst hin
       rw [List.take_length] at hall
       rw [List.take_length]
       refine T.exit ?_
       refine keepK hK11 [1, 4] (by dsimp) (by dsimp) ?_
       refine T.seq fun K21 hK21 => ?_
       refine T.region ?_ -- region 13
       refine ro rfl rfl (OpOk.step (ok_fieldAddr rfl ti_api_State rfl rfl ti_Lint (by decide) rfl)) ?_
       refine ro rfl rfl (OpOk.step (ok_load rfl ti_Lint rfl rfl)) ?_
       refine ro rfl rfl (ok_call rfl rfl rfl ((contains_ok s.st 2 hn).plain (by simp [renL, AV.ren, renL_ints]) rfl)) ?_
       refine ro rfl rfl (OpOk.step (ok_move (.inr rfl))) ?_
       refine ro_nil ?_
       refine keepK hK21 [1, 4, 7] (by dsimp) (by dsimp) ?_
       refine T.mkMap rfl rfl rfl rfl (fun r K22 hK22 => ?_) -- a map
       refine uo rfl rfl (OpOk.step (ok_move (.inr rfl))) ?_
       refine uo_nil ?_
       refine keepU hK22 [1, 4, 7, 8] (by dsimp) (by dsimp) ?_
       refine U.seq fun K23 hK23 => ?_
       refine U.seq fun K24 hK24 => ?_
       refine U.lift ?_
       refine T.region ?_ -- region 15
       refine ro rfl rfl (OpOk.step (ok_fieldAddr rfl ti_api_State rfl rfl ti_Lapi_Zone (by decide) rfl)) ?_
       refine ro rfl rfl (OpOk.step (ok_load rfl ti_Lapi_Zone rfl rfl)) ?_
       refine ro rfl rfl (OpOk.step (ok_len' rfl rfl ti_Lapi_Zone rfl (by first | exact ints_length _ _ | exact rowsA_length _ _ | exact Cms_len _ | exact mapLen _ | rfl))) ?_
       refine ro rfl rfl (OpOk.step (ok_move (.inl rfl))) ?_
       refine ro_nil ?_
       refine keepU hK24 [1, 4, 7, 8, 64, 65, 66] (by dsimp) (by dsimp) ?_
       refine U.block ?_
       refine U.loopI (ι := Nat) (fun i => i ≤ s.zs.length ∧ (∀ z ∈ s.zs.take i, RZ s.c (decide (2 ∈ s.st)) z) ∧ DS (s.zs.take i)) (fun i => s.zs.length - i) (fun i => (([(1, .ref 0 0 0), (4, .int (s.st.countP oddP)), (7, .b (decide (2 ∈ s.st))), (8, .v (.map (some r))), (64, .fz 6 (Zns s.zs)), (65, .int s.zs.length), (66, .int i)], [some (StB s), some (CB s.c)]), seenZ (s.zs.take i))) 0 ⟨Nat.zero_le _, fun y hy => by simp at hy, by simp [DS]⟩ (TEnt.toH rfl ⟨rfl, rfl, rfl, rfl, rfl, by simp, rfl, trivial⟩) rfl (fun i hi => ?_) -- loop 2
       obtain ⟨hjl, hzs, hds⟩ := hi
       refine U.seq fun K25 hK25 => ?_
       refine U.lift ?_
       refine T.region ?_ -- region 16
       refine ro rfl rfl (OpOk.step (ok_binOp rfl ti_int rfl)) ?_
       refine ro_nil ?_
       refine keepU hK25 [1, 4, 7, 8, 64, 65, 66, 67] (by dsimp) (by dsimp) ?_
       refine U.seq fun K26 hK26 => ?_
       refine U.cond rfl (fun hc => ?_) (fun hc => ?_) -- cond 5
       ·(try simp only [dE] at hc)
        obtain ⟨z, hz⟩ : ∃ z, s.zs[i]? = some z := ⟨_, List.getElem?_eq_getElem (by omega)⟩
        refine U.skip ?_
        refine keepU hK26 [1, 4, 7, 8, 64, 65, 66] (by dsimp) (by dsimp) ?_
        refine U.seq fun K27 hK27 => ?_
        refine U.block ?_
        refine U.seq fun K28 hK28 => ?_
        refine U.lift ?_
        refine T.region ?_ -- region 17
        refine ro rfl rfl (OpOk.step (by exact ok_index_map (F := ZnC) rfl ti_Lapi_Zone rfl ti_api_Zone rfl rfl rfl hz (by simp [ZnC]))) ?_
        refine ro rfl rfl (OpOk.step (ok_load rfl ti_api_Zone rfl rfl)) ?_
        refine ro rfl rfl (OpOk.step (ok_alloc rfl ti_api_Zone rfl (by decide))) ?_
        refine ro rfl rfl (OpOk.step (ok_store rfl ti_api_Zone (by decide) rfl rfl rfl rfl rfl (by first | exact Nat.le_of_ble_eq_true rfl | simp) (by first | exact .inl ⟨rfl, rfl⟩ | exact .inr rfl))) ?_
        refine ro_nil ?_
        refine keepU hK28 [1, 4, 7, 8, 10, 64, 65, 66] (by dsimp) (by dsimp) ?_
        refine U.seq fun K29 hK29 => ?_
        refine U.seq fun K30 hK30 => ?_
        refine U.region ?_ -- region 18
        refine uo rfl rfl (OpOk.step (ok_load rfl ti_api_State rfl rfl)) ?_
        refine uo rfl rfl (OpOk.step (ok_load rfl ti_api_Zone rfl rfl)) ?_
        refine uo rfl rfl (OpOk.step (ok_move (.inl rfl))) ?_
        refine uo rfl rfl (ok_call rfl rfl rfl ((rzone_ok s z (decide (2 ∈ s.st)) hck (hl z (List.mem_of_getElem? hz))).plain (by simp [renL, AV.ren, StC_take, StC_ren, ZnC_take, ZnC_ren]) rfl)) ?_
        refine uo rfl rfl (OpOk.step (ok_unOp rfl rfl)) ?_
        refine uo_case rfl rfl (OpOk.step (ok_moveb (.inl rfl) rfl)) (fun hb => ?_) (fun hb => ?_)
        ·(try simp only [dE] at hb)
         refine uo_skip rfl rfl ?_
         refine uo_skip rfl rfl ?_
         refine uo_skip rfl rfl ?_
         refine uo_skip rfl rfl ?_
         refine uo_skip rfl rfl ?_
         refine uo_skip rfl rfl ?_
         refine uo_skip rfl rfl ?_
         refine uo_skip rfl rfl ?_
         refine uo_skip rfl rfl ?_
         refine uo rfl rfl (OpOk.step (ok_pickb (t := true) (d := true) rfl rfl rfl)) ?_
         refine uo_nil ?_
         refine keepU hK30 [1, 4, 7, 8, 10, 64, 65, 66, 85] (by dsimp) (by dsimp) ?_
         refine U.cond_true rfl ?_
         refine U.seq fun K31 hK31 => ?_
         refine U.lift ?_
         refine T.region ?_ -- region 19
         refine ro rfl rfl (OpOk.step (ok_moveb (c := false) (.inr rfl) rfl)) ?_
         refine ro_nil ?_
         refine keepU hK31 [2] (by dsimp) (by dsimp) ?_
         refine U.ret (hQ _ _ _ rfl ?_).1 -- ret 7
         exact by first
           | (rw [RS_last hhead hall hzs hds]; exact TEnt.fin [] (by decide) (by simp) rfl ⟨rfl, trivial⟩)
         
           | (rw [decide_eq_false (fun h => by obtain ⟨h1, h2, h3, h4, h5, h⟩ := h; omega)]; exact TEnt.fin [] (by decide) (by simp) rfl ⟨rfl, trivial⟩)
           | (rw [decide_eq_false (RS_st (by assumption) (by assumption))]; exact TEnt.fin [] (by decide) (by simp) rfl ⟨rfl, trivial⟩)
           | (rw [decide_eq_false (RS_zn hz (by assumption))]; exact TEnt.fin [] (by decide) (by simp) rfl ⟨rfl, trivial⟩)
           | (rw [decide_eq_false (RS_ds (DS_no hz (by assumption) (by assumption)))]; exact TEnt.fin [] (by decide) (by simp) rfl ⟨rfl, trivial⟩)
           | (rw [decide_eq_false hno]; exact TEnt.fin [] (by decide) (by simp) rfl ⟨rfl, trivial⟩)
        ·(try simp only [dE] at hb)
         refine uo rfl rfl (OpOk.step (ok_fieldAddr rfl ti_api_Zone rfl rfl ti_int (by decide) rfl)) ?_
         refine uo rfl rfl (OpOk.step (ok_load rfl ti_int rfl rfl)) ?_
         refine uo rfl rfl (OpOk.step (ok_binOp rfl ti_int rfl)) ?_
         refine uo_case rfl rfl (OpOk.step (ok_moveb (.inl rfl) rfl)) (fun hb => ?_) (fun hb => ?_)
         ·(try simp only [dE] at hb)
          refine uo rfl rfl (OpOk.step (ok_move (.inl rfl))) ?_
          refine uo rfl rfl (OpOk.step (ok_fieldAddr rfl ti_api_Zone rfl rfl ti_int (by decide) rfl)) ?_
          refine uo rfl rfl (OpOk.step (ok_load rfl ti_int rfl rfl)) ?_
          refine um rfl rfl (um_lookup rfl Try.underlying139 Try.underlying3 ti_bool rfl rfl rfl) ?_
          refine uo rfl rfl (OpOk.step (ok_pick rfl rfl)) ?_
          refine uo rfl rfl (OpOk.step (ok_pick rfl rfl)) ?_
          refine uo_nil ?_
          refine keepU hK30 [1, 4, 7, 8, 10, 64, 65, 66, 85] (by dsimp) (by dsimp) ?_
          refine U.cond rfl (fun hc => ?_) (fun hc => ?_) -- cond 6
          ·(try simp only [dE] at hc)
           refine U.seq fun K32 hK32 => ?_
           refine U.lift ?_
           refine T.region ?_ -- region 19
           refine ro rfl rfl (OpOk.step (ok_moveb (c := false) (.inr rfl) rfl)) ?_
           refine ro_nil ?_
           refine keepU hK32 [2] (by dsimp) (by dsimp) ?_
           refine U.ret (hQ _ _ _ rfl ?_).1 -- ret 8
           exact by first
             | (rw [RS_last hhead hall hzs hds]; exact TEnt.fin [] (by decide) (by simp) rfl ⟨rfl, trivial⟩)
           
             | (rw [decide_eq_false (fun h => by obtain ⟨h1, h2, h3, h4, h5, h⟩ := h; omega)]; exact TEnt.fin [] (by decide) (by simp) rfl ⟨rfl, trivial⟩)
             | (rw [decide_eq_false (RS_st (by assumption) (by assumption))]; exact TEnt.fin [] (by decide) (by simp) rfl ⟨rfl, trivial⟩)
             | (rw [decide_eq_false (RS_zn hz (by assumption))]; exact TEnt.fin [] (by decide) (by simp) rfl ⟨rfl, trivial⟩)
             | (rw [decide_eq_false (RS_ds (DS_no hz (by assumption) (by assumption)))]; exact TEnt.fin [] (by decide) (by simp) rfl ⟨rfl, trivial⟩)
             | (rw [decide_eq_false hno]; exact TEnt.fin [] (by decide) (by simp) rfl ⟨rfl, trivial⟩)
          ·(try simp only [dE] at hc)
           refine U.skip ?_
           refine keepU hK29 [1, 4, 7, 8, 10, 64, 65, 66] (by dsimp) (by dsimp) ?_
           refine U.region ?_ -- region 20
           refine uo rfl rfl (OpOk.step (ok_move (.inl rfl))) ?_
           refine uo rfl rfl (OpOk.step (ok_fieldAddr rfl ti_api_Zone rfl rfl ti_int (by decide) rfl)) ?_
           refine uo rfl rfl (OpOk.step (ok_load rfl ti_int rfl rfl)) ?_
           refine um rfl rfl (um_update rfl Try.underlying139 Try.underlying3 rfl rfl rfl) ?_
           refine uo_nil ?_
           refine keepU hK27 [1, 4, 7, 8, 64, 65, 66] (by dsimp) (by dsimp) ?_
           refine U.lift ?_
           refine T.region ?_ -- region 21
           refine ro rfl rfl (OpOk.step (ok_add64 rfl ti_int rfl rfl (by omega) (by omega))) ?_
           refine ro rfl rfl (OpOk.step (ok_move (.inl rfl))) ?_
           refine ro_nil ?_
           exact ⟨i + 1, ⟨by omega, all_snoc hz hzs (by assumption), by rw [take_succ_get hz]; exact DS_snoc hds (by first | exact .inl (by assumption) | exact .inr (by assumption))⟩, by omega, TEnt.fin [0, 1] (by decide) (by simp) (by simp [normH, hget, StB_ren, CB_ren]) ⟨rfl, rfl, rfl, rfl, by simp [AV.ren, Zns_ren], rfl, rfl, trivial⟩, by rw [take_succ_get hz, seenZ_snoc]⟩
         ·(try simp only [dE] at hb)
          refine uo_skip rfl rfl ?_
          refine uo_skip rfl rfl ?_
          refine uo_skip rfl rfl ?_
          refine uo_skip rfl rfl ?_
          refine uo rfl rfl (OpOk.step (ok_pickb (t := false) (d := false) rfl rfl rfl)) ?_
          refine uo rfl rfl (OpOk.step (ok_pickb (t := false) (d := false) rfl rfl rfl)) ?_
          refine uo_nil ?_
          refine keepU hK30 [1, 4, 7, 8, 10, 64, 65, 66, 85] (by dsimp) (by dsimp) ?_
          refine U.cond_false rfl ?_
          refine U.skip ?_
          refine keepU hK29 [1, 4, 7, 8, 10, 64, 65, 66] (by dsimp) (by dsimp) ?_
          refine U.region ?_ -- region 20
          refine uo rfl rfl (OpOk.step (ok_move (.inl rfl))) ?_
          refine uo rfl rfl (OpOk.step (ok_fieldAddr rfl ti_api_Zone rfl rfl ti_int (by decide) rfl)) ?_
          refine uo rfl rfl (OpOk.step (ok_load rfl ti_int rfl rfl)) ?_
          refine um rfl rfl (um_update rfl Try.underlying139 Try.underlying3 rfl rfl rfl) ?_
          refine uo_nil ?_
          refine keepU hK27 [1, 4, 7, 8, 64, 65, 66] (by dsimp) (by dsimp) ?_
          refine U.lift ?_
          refine T.region ?_ -- region 21
          refine ro rfl rfl (OpOk.step (ok_add64 rfl ti_int rfl rfl (by omega) (by omega))) ?_
          refine ro rfl rfl (OpOk.step (ok_move (.inl rfl))) ?_
          refine ro_nil ?_
          exact ⟨i + 1, ⟨by omega, all_snoc hz hzs (by assumption), by rw [take_succ_get hz]; exact DS_snoc hds (by first | exact .inl (by assumption) | exact .inr (by assumption))⟩, by omega, TEnt.fin [0, 1] (by decide) (by simp) (by simp [normH, hget, StB_ren, CB_ren]) ⟨rfl, rfl, rfl, rfl, by simp [AV.ren, Zns_ren], rfl, rfl, trivial⟩, by rw [take_succ_get hz, seenZ_snoc]⟩
       ·(try simp only [dE] at hc)
        have hin : i = s.zs.length := by omega
        rw [hin, List.take_length] at hzs hds
        refine U.exit ?_
        refine keepU hK23 [4] (by dsimp) (by dsimp) ?_
        refine U.seq fun K33 hK33 => ?_
        refine U.lift ?_
        refine T.region ?_ -- region 22
        refine ro rfl rfl (OpOk.step (ok_move (.inl rfl))) ?_
        refine ro rfl rfl (OpOk.step (ok_binOp rfl ti_int rfl)) ?_
        refine ro rfl rfl (OpOk.step (ok_move (.inr rfl))) ?_
        refine ro_nil ?_
        refine keepU hK33 [2] (by dsimp) (by dsimp) ?_
        refine U.ret (hQ _ _ _ rfl ?_).1 -- ret 9
        exact by first
          | (rw [RS_last hhead hall hzs hds]; exact TEnt.fin [] (by decide) (by simp) rfl ⟨rfl, trivial⟩)
        
          | (rw [decide_eq_false (fun h => by obtain ⟨h1, h2, h3, h4, h5, h⟩ := h; omega)]; exact TEnt.fin [] (by decide) (by simp) rfl ⟨rfl, trivial⟩)
          | (rw [decide_eq_false (RS_st (by assumption) (by assumption))]; exact TEnt.fin [] (by decide) (by simp) rfl ⟨rfl, trivial⟩)
          | (rw [decide_eq_false (RS_zn hz (by assumption))]; exact TEnt.fin [] (by decide) (by simp) rfl ⟨rfl, trivial⟩)
          | (rw [decide_eq_false (RS_ds (DS_no hz (by assumption) (by assumption)))]; exact TEnt.fin [] (by decide) (by simp) rfl ⟨rfl, trivial⟩)
          | (rw [decide_eq_false hno]; exact TEnt.fin [] (by decide) (by simp) rfl ⟨rfl, trivial⟩)
end Go.Proofs.Ytlegolcbjjjofaa.AmF
