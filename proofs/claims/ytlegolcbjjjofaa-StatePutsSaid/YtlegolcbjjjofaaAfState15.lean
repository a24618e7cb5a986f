/- Walks over the abstract machine: states of the log: whether two are the same. -/
import Derived.Test.YtlegolcbjjjofaaAfState9a
import Derived.Test.YtlegolcbjjjofaaAfConfeq
namespace Go.Proofs.Ytlegolcbjjjofaa.AmF
open Go Go.AM
set_option maxRecDepth 100000
set_option maxHeartbeats 4000000
set_option linter.unusedSimpArgs false
set_option linter.unusedVariables false
attribute [local simp] tkeep tget tput ev cav argsTM pickA normT putA splice AV.cells ints_length rowsA_length Prs_len Zns_len
def PE (p q : Pr) : Prop := p.w = q.w ∧ strEq p.b q.b = true
def ZE (y z : Zn) : Prop := (y.gen = z.gen ∧ y.slot = z.slot ∧ y.full = z.full ∧ y.w = z.w ∧ y.whole = z.whole) ∧ y.pars.length = z.pars.length ∧ ∀ (k : Nat) (p q : Pr), y.pars[k]? = some p → z.pars[k]? = some q → PE p q
/-- Two states are the same. -/
def SE (a b : St) : Prop := (a.c = b.c ∧ a.ep = b.ep ∧ a.sq = b.sq ∧ a.st.length = b.st.length ∧ a.zs.length = b.zs.length) ∧ (∀ (i : Nat) (x y : Int), a.st[i]? = some x → b.st[i]? = some y → x = y) ∧ ∀ (i : Nat) (y z : Zn), a.zs[i]? = some y → b.zs[i]? = some z → ZE y z
noncomputable def seB (a b : St) : Bool := @decide (SE a b) (Classical.propDecidable _)
theorem seB_true {a b : St} (h : SE a b) : seB a b = true := by unfold seB; exact @decide_eq_true _ (Classical.propDecidable _) h
theorem seB_false {a b : St} (h : ¬ SE a b) : seB a b = false := by unfold seB; exact @decide_eq_false _ (Classical.propDecidable _) h
theorem PE_refl (p : Pr) : PE p p := ⟨rfl, strEq_refl _⟩
theorem ZE_refl (z : Zn) : ZE z z := ⟨⟨rfl, rfl, rfl, rfl, rfl⟩, rfl, fun k p q h h' => by rw [h] at h'; cases h'; exact PE_refl p⟩
theorem SE_refl (s : St) : SE s s := ⟨⟨rfl, rfl, rfl, rfl, rfl⟩, fun i x y h h' => by rw [h] at h'; cases h'; rfl, fun i y z h h' => by rw [h] at h'; cases h'; exact ZE_refl y⟩
theorem upto_step {α β : Type} {p : α → β → Prop} {l : List α} {m : List β} {i : Nat} {x : α} {y : β} (h : ∀ (k : Nat), k < i → ∀ u v, l[k]? = some u → m[k]? = some v → p u v) (hx : l[i]? = some x) (hy : m[i]? = some y) (hp : p x y) : ∀ (k : Nat), k < i + 1 → ∀ u v, l[k]? = some u → m[k]? = some v → p u v := by
  intro k hk u v hu hv
  rcases Nat.lt_or_ge k i with h1 | h1
  · exact h k h1 u v hu hv
  · obtain rfl : k = i := by omega
    rw [hx] at hu; rw [hy] at hv
    cases hu; cases hv
    exact hp
theorem upto_all {α β : Type} {p : α → β → Prop} {l : List α} {m : List β} (h : ∀ (k : Nat), k < l.length → ∀ u v, l[k]? = some u → m[k]? = some v → p u v) : ∀ (k : Nat) (u : α) (v : β), l[k]? = some u → m[k]? = some v → p u v := fun k u v hu hv => h k (List.getElem?_eq_some_iff.1 hu).1 u v hu hv
theorem rsame11_ok (a b : St) (ha : a.st.length ≤ 1000000 ∧ a.zs.length ≤ 1000000) (hl : ∀ z ∈ a.zs, z.pars.length ≤ 1000000) : CSpec Try.prog 29 [] [.agg (StC a), .agg (StC b)] [] (.b (seB a b)) := by
 refine CSpec.body Try.func29 rfl rfl rfl rfl rfl fun Q hQ => ?_
 refine T.seq fun K1 hK1 => ?_
 refine T.region ?_ -- region 0
 refine ro rfl rfl (OpOk.step (ok_box (n := 15) rfl rfl (by decide))) ?_
 refine ro rfl rfl (OpOk.step (ok_box (n := 15) rfl rfl (by decide))) ?_
 refine ro rfl rfl (OpOk.step (ok_moveb (c := false) (.inr rfl) rfl)) ?_
 refine ro_nil ?_
 refine keepK hK1 [2, 3] (by dsimp) (by dsimp) ?_
 refine T.seq fun K2 hK2 => ?_
 refine T.seq fun K3 hK3 => ?_
 refine T.region ?_ -- region 1
 refine ro rfl rfl (OpOk.step (ok_fieldAddr rfl ti_api_State rfl rfl ti_api_Conf (by decide) rfl)) ?_
 refine ro rfl rfl (OpOk.step (ok_load rfl ti_api_Conf rfl rfl)) ?_
 refine ro rfl rfl (OpOk.step (ok_fieldAddr rfl ti_api_State rfl rfl ti_api_Conf (by decide) rfl)) ?_
 refine ro rfl rfl (OpOk.step (ok_load rfl ti_api_Conf rfl rfl)) ?_
 refine ro rfl rfl (OpOk.step ((eq_conf (c := a.c) (d := b.c) rfl (.inr rfl) rfl rfl).eq (x' := .b (!decide (a.c = b.c))) rfl rfl)) ?_
 refine ro_case rfl rfl (OpOk.step (ok_moveb (.inl rfl) rfl)) (fun hb => ?_) (fun hb => ?_)
 ·(try simp only [dE] at hb)
  refine ro_skip rfl rfl ?_
  refine ro_skip rfl rfl ?_
  refine ro_skip rfl rfl ?_
  refine ro_skip rfl rfl ?_
  refine ro_skip rfl rfl ?_
  refine ro rfl rfl (OpOk.step (ok_pickb (t := true) (d := true) rfl rfl rfl)) ?_
  refine ro rfl rfl (OpOk.step (ok_moveb (c := true) (.inl rfl) rfl)) ?_
  refine ro_skip rfl rfl ?_
  refine ro_skip rfl rfl ?_
  refine ro_skip rfl rfl ?_
  refine ro_skip rfl rfl ?_
  refine ro_skip rfl rfl ?_
  refine ro rfl rfl (OpOk.step (ok_pickb (t := true) (d := true) rfl rfl rfl)) ?_
  refine ro rfl rfl (OpOk.step (ok_moveb (c := true) (.inl rfl) rfl)) ?_
  refine ro_skip rfl rfl ?_
  refine ro_skip rfl rfl ?_
  refine ro_skip rfl rfl ?_
  refine ro_skip rfl rfl ?_
  refine ro_skip rfl rfl ?_
  refine ro_skip rfl rfl ?_
  refine ro_skip rfl rfl ?_
  refine ro rfl rfl (OpOk.step (ok_pickb (t := true) (d := true) rfl rfl rfl)) ?_
  refine ro rfl rfl (OpOk.step (ok_moveb (c := true) (.inl rfl) rfl)) ?_
  refine ro_skip rfl rfl ?_
  refine ro_skip rfl rfl ?_
  refine ro_skip rfl rfl ?_
  refine ro_skip rfl rfl ?_
  refine ro_skip rfl rfl ?_
  refine ro_skip rfl rfl ?_
  refine ro_skip rfl rfl ?_
  refine ro rfl rfl (OpOk.step (ok_pickb (t := true) (d := true) rfl rfl rfl)) ?_
  refine ro_nil ?_
  refine keepK hK3 [2, 3, 46] (by dsimp) (by dsimp) ?_
  refine T.cond_true rfl ?_
  refine T.seq fun K4 hK4 => ?_
  refine T.region ?_ -- region 2
  refine ro rfl rfl (OpOk.step (ok_moveb (c := false) (.inr rfl) rfl)) ?_
  refine ro_nil ?_
  refine keepK hK4 [4] (by dsimp) (by dsimp) ?_
  refine T.ret (hQ _ _ _ rfl ?_).1 -- ret 1
  exact by (rw [seB_false (fun h => by obtain ⟨⟨h1, h2, h3, h4, h5⟩, _⟩ := h; first | contradiction | omega | (simp only [Zns_len] at *; omega) | (simp_all; done))]; exact TEnt.fin [] (by decide) (by simp) rfl ⟨rfl, trivial⟩)
 ·(try simp only [dE] at hb)
  refine ro rfl rfl (OpOk.step (ok_fieldAddr rfl ti_api_State rfl rfl ti_int (by decide) rfl)) ?_
  refine ro rfl rfl (OpOk.step (ok_load rfl ti_int rfl rfl)) ?_
  refine ro rfl rfl (OpOk.step (ok_fieldAddr rfl ti_api_State rfl rfl ti_int (by decide) rfl)) ?_
  refine ro rfl rfl (OpOk.step (ok_load rfl ti_int rfl rfl)) ?_
  refine ro rfl rfl (OpOk.step (ok_binOp rfl ti_int rfl)) ?_
  refine ro rfl rfl (OpOk.step (ok_pick rfl rfl)) ?_
  refine ro_case rfl rfl (OpOk.step (ok_moveb (.inl rfl) rfl)) (fun hb => ?_) (fun hb => ?_)
  ·(try simp only [dE] at hb)
   refine ro_skip rfl rfl ?_
   refine ro_skip rfl rfl ?_
   refine ro_skip rfl rfl ?_
   refine ro_skip rfl rfl ?_
   refine ro_skip rfl rfl ?_
   refine ro rfl rfl (OpOk.step (ok_pickb (t := true) (d := true) rfl rfl rfl)) ?_
   refine ro rfl rfl (OpOk.step (ok_moveb (c := true) (.inl rfl) rfl)) ?_
   refine ro_skip rfl rfl ?_
   refine ro_skip rfl rfl ?_
   refine ro_skip rfl rfl ?_
   refine ro_skip rfl rfl ?_
   refine ro_skip rfl rfl ?_
   refine ro_skip rfl rfl ?_
   refine ro_skip rfl rfl ?_
   refine ro rfl rfl (OpOk.step (ok_pickb (t := true) (d := true) rfl rfl rfl)) ?_
   refine ro rfl rfl (OpOk.step (ok_moveb (c := true) (.inl rfl) rfl)) ?_
   refine ro_skip rfl rfl ?_
   refine ro_skip rfl rfl ?_
   refine ro_skip rfl rfl ?_
   refine ro_skip rfl rfl ?_
   refine ro_skip rfl rfl ?_
   refine ro_skip rfl rfl ?_
   refine ro_skip rfl rfl ?_
   refine ro rfl rfl (OpOk.step (ok_pickb (t := true) (d := true) rfl rfl rfl)) ?_
   refine ro_nil ?_
   refine keepK hK3 [2, 3, 46] (by dsimp) (by dsimp) ?_
   refine T.cond_true rfl ?_
   refine T.seq fun K5 hK5 => ?_
   refine T.region ?_ -- region 2
   refine ro rfl rfl (OpOk.step (ok_moveb (c := false) (.inr rfl) rfl)) ?_
   refine ro_nil ?_
   refine keepK hK5 [4] (by dsimp) (by dsimp) ?_
   refine T.ret (hQ _ _ _ rfl ?_).1 -- ret 2
   exact by (rw [seB_false (fun h => by obtain ⟨⟨h1, h2, h3, h4, h5⟩, _⟩ := h; first | contradiction | omega | (simp only [Zns_len] at *; omega) | (simp_all; done))]; exact TEnt.fin [] (by decide) (by simp) rfl ⟨rfl, trivial⟩)
  ·(try simp only [dE] at hb)
   refine ro rfl rfl (OpOk.step (ok_fieldAddr rfl ti_api_State rfl rfl ti_int (by decide) rfl)) ?_
   refine ro rfl rfl (OpOk.step (ok_load rfl ti_int rfl rfl)) ?_
   refine ro rfl rfl (OpOk.step (ok_fieldAddr rfl ti_api_State rfl rfl ti_int (by decide) rfl)) ?_
   refine ro rfl rfl (OpOk.step (ok_load rfl ti_int rfl rfl)) ?_
   refine ro rfl rfl (OpOk.step (ok_binOp rfl ti_int rfl)) ?_
   refine ro rfl rfl (OpOk.step (ok_pick rfl rfl)) ?_
   refine ro_case rfl rfl (OpOk.step (ok_moveb (.inl rfl) rfl)) (fun hb => ?_) (fun hb => ?_)
   ·(try simp only [dE] at hb)
    refine ro_skip rfl rfl ?_
    refine ro_skip rfl rfl ?_
    refine ro_skip rfl rfl ?_
    refine ro_skip rfl rfl ?_
    refine ro_skip rfl rfl ?_
    refine ro_skip rfl rfl ?_
    refine ro_skip rfl rfl ?_
    refine ro rfl rfl (OpOk.step (ok_pickb (t := true) (d := true) rfl rfl rfl)) ?_
    refine ro rfl rfl (OpOk.step (ok_moveb (c := true) (.inl rfl) rfl)) ?_
    refine ro_skip rfl rfl ?_
    refine ro_skip rfl rfl ?_
    refine ro_skip rfl rfl ?_
    refine ro_skip rfl rfl ?_
    refine ro_skip rfl rfl ?_
    refine ro_skip rfl rfl ?_
    refine ro_skip rfl rfl ?_
    refine ro rfl rfl (OpOk.step (ok_pickb (t := true) (d := true) rfl rfl rfl)) ?_
    refine ro_nil ?_
    refine keepK hK3 [2, 3, 46] (by dsimp) (by dsimp) ?_
    refine T.cond_true rfl ?_
    refine T.seq fun K6 hK6 => ?_
    refine T.region ?_ -- region 2
    refine ro rfl rfl (OpOk.step (ok_moveb (c := false) (.inr rfl) rfl)) ?_
    refine ro_nil ?_
    refine keepK hK6 [4] (by dsimp) (by dsimp) ?_
    refine T.ret (hQ _ _ _ rfl ?_).1 -- ret 3
    exact by (rw [seB_false (fun h => by obtain ⟨⟨h1, h2, h3, h4, h5⟩, _⟩ := h; first | contradiction | omega | (simp only [Zns_len] at *; omega) | (simp_all; done))]; exact TEnt.fin [] (by decide) (by simp) rfl ⟨rfl, trivial⟩)
   ·(try simp only [dE] at hb)
    refine ro rfl rfl (OpOk.step (ok_fieldAddr rfl ti_api_State rfl rfl ti_Lint (by decide) rfl)) ?_
    refine ro rfl rfl (OpOk.step (ok_load rfl ti_Lint rfl rfl)) ?_
    refine ro rfl rfl (OpOk.step (ok_len' rfl rfl ti_Lint rfl (by first | exact ints_length _ _ | exact rowsA_length _ _ | exact Cms_len _ | exact mapLen _ | rfl))) ?_
    refine ro rfl rfl (OpOk.step (ok_fieldAddr rfl ti_api_State rfl rfl ti_Lint (by decide) rfl)) ?_
    refine ro rfl rfl (OpOk.step (ok_load rfl ti_Lint rfl rfl)) ?_
    refine ro rfl rfl (OpOk.step (ok_len' rfl rfl ti_Lint rfl (by first | exact ints_length _ _ | exact rowsA_length _ _ | exact Cms_len _ | exact mapLen _ | rfl))) ?_
    refine ro rfl rfl (OpOk.step (ok_binOp rfl ti_int rfl)) ?_
    refine ro rfl rfl (OpOk.step (ok_pick rfl rfl)) ?_
    refine ro_case rfl rfl (OpOk.step (ok_moveb (.inl rfl) rfl)) (fun hb => ?_) (fun hb => ?_)
    ·(try simp only [dE] at hb)
     refine ro_skip rfl rfl ?_
     refine ro_skip rfl rfl ?_
     refine ro_skip rfl rfl ?_
     refine ro_skip rfl rfl ?_
     refine ro_skip rfl rfl ?_
     refine ro_skip rfl rfl ?_
     refine ro_skip rfl rfl ?_
     refine ro rfl rfl (OpOk.step (ok_pickb (t := true) (d := true) rfl rfl rfl)) ?_
     refine ro_nil ?_
     refine keepK hK3 [2, 3, 46] (by dsimp) (by dsimp) ?_
     refine T.cond_true rfl ?_
     refine T.seq fun K7 hK7 => ?_
     refine T.region ?_ -- region 2
     refine ro rfl rfl (OpOk.step (ok_moveb (c := false) (.inr rfl) rfl)) ?_
     refine ro_nil ?_
     refine keepK hK7 [4] (by dsimp) (by dsimp) ?_
     refine T.ret (hQ _ _ _ rfl ?_).1 -- ret 4
     exact by (rw [seB_false (fun h => by obtain ⟨⟨h1, h2, h3, h4, h5⟩, _⟩ := h; first | contradiction | omega | (simp only [Zns_len] at *; omega) | (simp_all; done))]; exact TEnt.fin [] (by decide) (by simp) rfl ⟨rfl, trivial⟩)
    ·(try simp only [dE] at hb)
     refine ro rfl rfl (OpOk.step (ok_fieldAddr rfl ti_api_State rfl rfl ti_Lapi_Zone (by decide) rfl)) ?_
     refine ro rfl rfl (OpOk.step (ok_load rfl ti_Lapi_Zone rfl rfl)) ?_
     refine ro rfl rfl (OpOk.step (ok_len' rfl rfl ti_Lapi_Zone rfl (by first | exact ints_length _ _ | exact rowsA_length _ _ | exact Cms_len _ | exact mapLen _ | rfl))) ?_
     refine ro rfl rfl (OpOk.step (ok_fieldAddr rfl ti_api_State rfl rfl ti_Lapi_Zone (by decide) rfl)) ?_
     refine ro rfl rfl (OpOk.step (ok_load rfl ti_Lapi_Zone rfl rfl)) ?_
     refine ro rfl rfl (OpOk.step (ok_len' rfl rfl ti_Lapi_Zone rfl (by first | exact ints_length _ _ | exact rowsA_length _ _ | exact Cms_len _ | exact mapLen _ | rfl))) ?_
     refine ro rfl rfl (OpOk.step (ok_binOp rfl ti_int rfl)) ?_
     refine ro rfl rfl (OpOk.step (ok_pick rfl rfl)) ?_
     refine ro_nil ?_
     refine keepK hK3 [2, 3, 46] (by dsimp) (by dsimp) ?_
     refine T.cond rfl (fun hc => ?_) (fun hc => ?_) -- cond 1
     ·(try simp only [dE] at hc)
      refine T.seq fun K8 hK8 => ?_
      refine T.region ?_ -- region 2
      refine ro rfl rfl (OpOk.step (ok_moveb (c := false) (.inr rfl) rfl)) ?_
      refine ro_nil ?_
      refine keepK hK8 [4] (by dsimp) (by dsimp) ?_
      refine T.ret (hQ _ _ _ rfl ?_).1 -- ret 5
      exact by (rw [seB_false (fun h => by obtain ⟨⟨h1, h2, h3, h4, h5⟩, _⟩ := h; first | contradiction | omega | (simp only [Zns_len] at *; omega) | (simp_all; done))]; exact TEnt.fin [] (by decide) (by simp) rfl ⟨rfl, trivial⟩)
     ·(try simp only [dE] at hc)
      try simp only [Zns_len] at hc
      have hhead : a.c = b.c ∧ a.ep = b.ep ∧ a.sq = b.sq ∧ a.st.length = b.st.length ∧ a.zs.length = b.zs.length := by
        refine ⟨?_, ?_, ?_, ?_, ?_⟩ <;> first | assumption | omega | (simp_all; done)
      refine T.skip ?_
      refine keepK hK2 [2, 3] (by dsimp) (by dsimp) ?_
      refine T.seq fun K9 hK9 => ?_
      refine T.seq fun K10 hK10 => ?_
      refine T.region ?_ -- region 3
      refine ro rfl rfl (OpOk.step (ok_move (.inr rfl))) ?_
      refine ro_nil ?_
      refine keepK hK10 [2, 3, 5] (by dsimp) (by dsimp) ?_
      refine T.block ?_
      refine T.loopI (ι := Nat) (fun i => i ≤ a.st.length ∧ ∀ (k : Nat), k < i → ∀ u v, a.st[k]? = some u → b.st[k]? = some v → u = v) (fun i => a.st.length - i) (fun i => ([(2, .ref 0 0 0), (3, .ref 1 0 0), (5, .int i)], [some (StB a), some (StB b)])) 0 ⟨Nat.zero_le _, fun k hk => absurd hk (Nat.not_lt_zero _)⟩ (TEnt.toH rfl ⟨rfl, rfl, rfl, trivial⟩) (fun i hi => ?_) -- loop 1
      obtain ⟨hil, hst⟩ := hi
      refine T.seq fun K11 hK11 => ?_
      refine T.seq fun K12 hK12 => ?_
      refine T.region ?_ -- region 4
      refine ro rfl rfl (OpOk.step (ok_move (.inl rfl))) ?_
      refine ro rfl rfl (OpOk.step (ok_fieldAddr rfl ti_api_State rfl rfl ti_Lint (by decide) rfl)) ?_
      refine ro rfl rfl (OpOk.step (ok_load rfl ti_Lint rfl rfl)) ?_
      refine ro rfl rfl (OpOk.step (ok_len' rfl rfl ti_Lint rfl (by first | exact ints_length _ _ | exact rowsA_length _ _ | exact Cms_len _ | exact mapLen _ | rfl))) ?_
      refine ro rfl rfl (OpOk.step (ok_binOp rfl ti_int rfl)) ?_
      refine ro_nil ?_
      refine keepK hK12 [2, 3, 5, 51] (by dsimp) (by dsimp) ?_
      refine T.cond rfl (fun hc => ?_) (fun hc => ?_) -- cond 2
      ·(try simp only [dE] at hc)
       obtain ⟨x, hx⟩ : ∃ x, a.st[i]? = some x := ⟨_, List.getElem?_eq_getElem (by omega)⟩
       obtain ⟨y, hy⟩ : ∃ y, b.st[i]? = some y := ⟨_, List.getElem?_eq_getElem (by omega)⟩
       refine T.skip ?_
       refine keepK hK11 [2, 3, 5] (by dsimp) (by dsimp) ?_
       refine T.seq fun K13 hK13 => ?_
       refine T.block ?_
       refine T.seq fun K14 hK14 => ?_
       refine T.drawH mixed [] ?_ -- region 6
       refine any_take 0 rfl (by first | rfl | decide +kernel) rfl (HeldL.refl _) (fun H' hH => OpOk.step (ok_fieldAddr rfl ti_api_State rfl rfl ti_Lint (by decide) rfl)) ?_
       refine any_take 1 rfl (by first | rfl | decide +kernel) rfl (HeldL.refl _) (fun H' hH => OpOk.step (ok_load rfl ti_Lint (locA_held hH rfl) rfl)) ?_
       refine any_take 2 rfl (by first | rfl | decide +kernel) rfl (HeldL.refl _) (fun H' hH => OpOk.step (ok_move (.inl rfl))) ?_
       refine any_take 3 rfl (by first | rfl | decide +kernel) rfl (HeldL.refl _) (fun H' hH => OpOk.step (by exact ok_index_ints rfl ti_Lint rfl ti_int rfl rfl rfl (by omega) (by simpa using hx))) ?_
       refine any_take 4 rfl (by first | rfl | decide +kernel) rfl (HeldL.refl _) (fun H' hH => OpOk.step (ok_load rfl ti_int (locA_held hH rfl) rfl)) ?_
       refine any_take 5 rfl (by first | rfl | decide +kernel) rfl (HeldL.refl _) (fun H' hH => OpOk.step (ok_fieldAddr rfl ti_api_State rfl rfl ti_Lint (by decide) rfl)) ?_
       refine any_take 6 rfl (by first | rfl | decide +kernel) rfl (HeldL.refl _) (fun H' hH => OpOk.step (ok_load rfl ti_Lint (locA_held hH rfl) rfl)) ?_
       refine any_take 7 rfl (by first | rfl | decide +kernel) rfl (HeldL.refl _) (fun H' hH => OpOk.step (ok_move (.inl rfl))) ?_
       refine any_take 8 rfl (by first | rfl | decide +kernel) rfl (HeldL.refl _) (fun H' hH => OpOk.step (by exact ok_index_ints rfl ti_Lint rfl ti_int rfl rfl rfl (by omega) (by simpa using hy))) ?_
       refine any_take 9 rfl (by first | rfl | decide +kernel) rfl (HeldL.refl _) (fun H' hH => OpOk.step (ok_load rfl ti_int (locA_held hH rfl) rfl)) ?_
       refine any_take 10 rfl (by first | rfl | decide +kernel) rfl (HeldL.refl _) (fun H' hH => OpOk.step (ok_binOp rfl ti_int rfl)) ?_
       refine any_done rfl ?_
       refine keepK hK14 [2, 3, 5, 64] (by dsimp) (by dsimp) ?_
       refine T.cond rfl (fun hc => ?_) (fun hc => ?_) -- cond 3
       ·(try simp only [dE] at hc)
        refine T.seq fun K15 hK15 => ?_
        refine T.region ?_ -- region 7
        refine ro rfl rfl (OpOk.step (ok_moveb (c := false) (.inr rfl) rfl)) ?_
        refine ro_nil ?_
        refine keepK hK15 [4] (by dsimp) (by dsimp) ?_
        refine T.ret (hQ _ _ _ rfl ?_).1 -- ret 6
        exact by (rw [seB_false (fun h => by have h1 := h.2.1 i x y hx hy; first | contradiction | omega)]; exact TEnt.fin [] (by decide) (by simp) rfl ⟨rfl, trivial⟩)
       ·(try simp only [dE] at hc)
        refine T.skip ?_
        refine keepK hK13 [2, 3, 5] (by dsimp) (by dsimp) ?_
        refine T.region ?_ -- region 5
        refine ro rfl rfl (OpOk.step (ok_move (.inl rfl))) ?_
        refine ro rfl rfl (OpOk.step (ok_add64 rfl ti_int rfl rfl (by omega) (by omega))) ?_
        refine ro rfl rfl (OpOk.step (ok_move (.inr rfl))) ?_
        refine ro_nil ?_
        exact ⟨i + 1, ⟨by omega, upto_step hst hx hy (by omega)⟩, by omega, TEnt.toH rfl ⟨rfl, rfl, rfl, trivial⟩⟩
      ·(try simp only [dE] at hc)
       have hin : i = a.st.length := by omega
       subst hin
       replace hst := upto_all hst
       refine T.exit ?_
       refine keepK hK9 [2, 3] (by dsimp) (by dsimp) ?_
       refine T.seq fun K16 hK16 => ?_
       refine T.seq fun K17 hK17 => ?_
       refine T.region ?_ -- region 8
       refine ro rfl rfl (OpOk.step (ok_move (.inr rfl))) ?_
       refine ro_nil ?_
       refine keepK hK17 [2, 3, 6] (by dsimp) (by dsimp) ?_
       refine T.block ?_
       refine T.loopI (ι := Nat) (fun i => i ≤ a.zs.length ∧ ∀ (k : Nat), k < i → ∀ u v, a.zs[k]? = some u → b.zs[k]? = some v → ZE u v) (fun i => a.zs.length - i) (fun i => ([(2, .ref 0 0 0), (3, .ref 1 0 0), (6, .int i)], [some (StB a), some (StB b)])) 0 ⟨Nat.zero_le _, fun k hk => absurd hk (Nat.not_lt_zero _)⟩ (TEnt.toH rfl ⟨rfl, rfl, rfl, trivial⟩) (fun i hi => ?_) -- loop 2
       obtain ⟨hjl, hzs⟩ := hi
       refine T.seq fun K18 hK18 => ?_
       refine T.seq fun K19 hK19 => ?_
       refine T.region ?_ -- region 9
       refine ro rfl rfl (OpOk.step (ok_move (.inl rfl))) ?_
       refine ro rfl rfl (OpOk.step (ok_fieldAddr rfl ti_api_State rfl rfl ti_Lapi_Zone (by decide) rfl)) ?_
       refine ro rfl rfl (OpOk.step (ok_load rfl ti_Lapi_Zone rfl rfl)) ?_
       refine ro rfl rfl (OpOk.step (ok_len' rfl rfl ti_Lapi_Zone rfl (by first | exact ints_length _ _ | exact rowsA_length _ _ | exact Cms_len _ | exact mapLen _ | rfl))) ?_
       refine ro rfl rfl (OpOk.step (ok_binOp rfl ti_int rfl)) ?_
       refine ro_nil ?_
       refine keepK hK19 [2, 3, 6, 69] (by dsimp) (by dsimp) ?_
       refine T.cond rfl (fun hc => ?_) (fun hc => ?_) -- cond 4
       ·(try simp only [dE] at hc)
        rw [Zns_len] at hc
        obtain ⟨w, hw⟩ : ∃ w, w = i := ⟨_, rfl⟩
        subst hw
        obtain ⟨y, hy⟩ : ∃ y, a.zs[w]? = some y := ⟨_, List.getElem?_eq_getElem (by omega)⟩
        obtain ⟨z, hz⟩ : ∃ z, b.zs[w]? = some z := ⟨_, List.getElem?_eq_getElem (by omega)⟩
        have hly := hl y (List.mem_of_getElem? hy)
        refine T.skip ?_
        refine keepK hK18 [2, 3, 6] (by dsimp) (by dsimp) ?_
        refine T.seq fun K20 hK20 => ?_
        refine T.block ?_
        refine T.seq fun K21 hK21 => ?_
        refine T.join hK21 [(2, .ref 0 0 0), (3, .ref 1 0 0), (6, .int w), (7, .ref 2 0 0), (8, .ref 3 0 0)] [some (StB a), some (StB b), some (ZnB y), some (ZnB z)] (fun hJ22 => ?_) ?_
        ·
         refine T.draw mixed (SH [] (HeldL ([some (StB a), some (StB b)]))) ?_ -- region 11
         refine any_take 0 rfl (by first | rfl | decide +kernel) rfl (by first | (simp [HeldL]; done) | (simp only [HeldL, List.map_cons, List.map_nil, List.cons_append, List.nil_append, List.set_cons_zero, List.set_cons_succ]; (repeat' first | trivial | rfl | constructor))) (fun H' hH => OpOk.step (ok_fieldAddr rfl ti_api_State rfl rfl ti_Lapi_Zone (by decide) rfl)) ?_
         refine any_take 1 rfl (by first | rfl | decide +kernel) rfl (by first | (simp [HeldL]; done) | (simp only [HeldL, List.map_cons, List.map_nil, List.cons_append, List.nil_append, List.set_cons_zero, List.set_cons_succ]; (repeat' first | trivial | rfl | constructor))) (fun H' hH => OpOk.step (ok_load rfl ti_Lapi_Zone (locA_held hH rfl) rfl)) ?_
         refine any_take 2 rfl (by first | rfl | decide +kernel) rfl (by first | (simp [HeldL]; done) | (simp only [HeldL, List.map_cons, List.map_nil, List.cons_append, List.nil_append, List.set_cons_zero, List.set_cons_succ]; (repeat' first | trivial | rfl | constructor))) (fun H' hH => OpOk.step (ok_move (.inl rfl))) ?_
         refine any_take 3 rfl (by first | rfl | decide +kernel) rfl (by first | (simp [HeldL]; done) | (simp only [HeldL, List.map_cons, List.map_nil, List.cons_append, List.nil_append, List.set_cons_zero, List.set_cons_succ]; (repeat' first | trivial | rfl | constructor))) (fun H' hH => OpOk.step (by exact ok_index_map (F := ZnC) rfl ti_Lapi_Zone rfl ti_api_Zone rfl rfl rfl hy (by simp [ZnC]))) ?_
         refine any_take 4 rfl (by first | rfl | decide +kernel) rfl (by first | (simp [HeldL]; done) | (simp only [HeldL, List.map_cons, List.map_nil, List.cons_append, List.nil_append, List.set_cons_zero, List.set_cons_succ]; (repeat' first | trivial | rfl | constructor))) (fun H' hH => OpOk.step (ok_load rfl ti_api_Zone (locA_held hH rfl) rfl)) ?_
         refine any_take 5 rfl (by first | rfl | decide +kernel) rfl (by first | (simp [HeldL]; done) | (simp only [HeldL, List.map_cons, List.map_nil, List.cons_append, List.nil_append, List.set_cons_zero, List.set_cons_succ]; (repeat' first | trivial | rfl | constructor))) (fun H' hH => OpOk.step (ok_fieldAddr rfl ti_api_State rfl rfl ti_Lapi_Zone (by decide) rfl)) ?_
         refine any_take 6 rfl (by first | rfl | decide +kernel) rfl (by first | (simp [HeldL]; done) | (simp only [HeldL, List.map_cons, List.map_nil, List.cons_append, List.nil_append, List.set_cons_zero, List.set_cons_succ]; (repeat' first | trivial | rfl | constructor))) (fun H' hH => OpOk.step (ok_load rfl ti_Lapi_Zone (locA_held hH rfl) rfl)) ?_
         refine any_take 7 rfl (by first | rfl | decide +kernel) rfl (by first | (simp [HeldL]; done) | (simp only [HeldL, List.map_cons, List.map_nil, List.cons_append, List.nil_append, List.set_cons_zero, List.set_cons_succ]; (repeat' first | trivial | rfl | constructor))) (fun H' hH => OpOk.step (ok_move (.inl rfl))) ?_
         refine any_take 8 rfl (by first | rfl | decide +kernel) rfl (by first | (simp [HeldL]; done) | (simp only [HeldL, List.map_cons, List.map_nil, List.cons_append, List.nil_append, List.set_cons_zero, List.set_cons_succ]; (repeat' first | trivial | rfl | constructor))) (fun H' hH => OpOk.step (by exact ok_index_map (F := ZnC) rfl ti_Lapi_Zone rfl ti_api_Zone rfl rfl rfl hz (by simp [ZnC]))) ?_
         refine any_take 9 rfl (by first | rfl | decide +kernel) rfl (by first | (simp [HeldL]; done) | (simp only [HeldL, List.map_cons, List.map_nil, List.cons_append, List.nil_append, List.set_cons_zero, List.set_cons_succ]; (repeat' first | trivial | rfl | constructor))) (fun H' hH => OpOk.step (ok_load rfl ti_api_Zone (locA_held hH rfl) rfl)) ?_
         refine any_many [10, 11] (by first | rfl | decide +kernel) (by decide) (fun k hk => ?_)
         simp only [List.mem_cons, List.not_mem_nil, or_false] at hk
         rcases hk with rfl | rfl
         ·
          refine step_one rfl rfl rfl (OpOk.step (ok_alloc rfl ti_api_Zone rfl (by decide))) (.inr (by first | (simp [HeldL]; done) | (simp only [HeldL, List.map_cons, List.map_nil, List.cons_append, List.nil_append, List.set_cons_zero, List.set_cons_succ]; (repeat' first | trivial | rfl | constructor)))) ?_
          refine any_one 11 rfl (by first | rfl | decide +kernel) rfl rfl (OpOk.step (ok_alloc rfl ti_api_Zone rfl (by decide))) (.inr (by first | (simp [HeldL]; done) | (simp only [HeldL, List.map_cons, List.map_nil, List.cons_append, List.nil_append, List.set_cons_zero, List.set_cons_succ]; (repeat' first | trivial | rfl | constructor)))) ?_
          refine any_one 12 rfl (by first | rfl | decide +kernel) rfl rfl (OpOk.step (ok_store rfl ti_api_Zone (by decide) rfl rfl rfl rfl rfl (by first | exact Nat.le_of_ble_eq_true rfl | simp) (by first | exact .inl ⟨rfl, rfl⟩ | exact .inr rfl))) (.inr (by first | (simp [HeldL]; done) | (simp only [HeldL, List.map_cons, List.map_nil, List.cons_append, List.nil_append, List.set_cons_zero, List.set_cons_succ]; (repeat' first | trivial | rfl | constructor)))) ?_
          refine any_one 13 rfl (by first | rfl | decide +kernel) rfl rfl (OpOk.step (ok_store rfl ti_api_Zone (by decide) rfl rfl rfl rfl rfl (by first | exact Nat.le_of_ble_eq_true rfl | simp) (by first | exact .inl ⟨rfl, rfl⟩ | exact .inr rfl))) (.inr (by first | (simp [HeldL]; done) | (simp only [HeldL, List.map_cons, List.map_nil, List.cons_append, List.nil_append, List.set_cons_zero, List.set_cons_succ]; (repeat' first | trivial | rfl | constructor)))) ?_
          refine any_done rfl ?_
          first | exact hJ22 _ _ (TEnt.toH rfl ⟨rfl, rfl, rfl, rfl, rfl, trivial⟩) | exact hJ22 _ _ (TEnt.fin [0, 1, 3, 2] (by decide) (by simp) (by show [some (Blk.ren _ (StB a)), some (Blk.ren _ (StB b)), some (Blk.ren _ (ZnB y)), some (Blk.ren _ (ZnB z))] = _; rw [StB_ren, StB_ren, ZnB_ren, ZnB_ren]) ⟨rfl, rfl, rfl, rfl, rfl, trivial⟩)
         ·
          refine step_one rfl rfl rfl (OpOk.step (ok_alloc rfl ti_api_Zone rfl (by decide))) (.inr (by first | (simp [HeldL]; done) | (simp only [HeldL, List.map_cons, List.map_nil, List.cons_append, List.nil_append, List.set_cons_zero, List.set_cons_succ]; (repeat' first | trivial | rfl | constructor)))) ?_
          refine any_one 10 rfl (by first | rfl | decide +kernel) rfl rfl (OpOk.step (ok_alloc rfl ti_api_Zone rfl (by decide))) (.inr (by first | (simp [HeldL]; done) | (simp only [HeldL, List.map_cons, List.map_nil, List.cons_append, List.nil_append, List.set_cons_zero, List.set_cons_succ]; (repeat' first | trivial | rfl | constructor)))) ?_
          refine any_one 12 rfl (by first | rfl | decide +kernel) rfl rfl (OpOk.step (ok_store rfl ti_api_Zone (by decide) rfl rfl rfl rfl rfl (by first | exact Nat.le_of_ble_eq_true rfl | simp) (by first | exact .inl ⟨rfl, rfl⟩ | exact .inr rfl))) (.inr (by first | (simp [HeldL]; done) | (simp only [HeldL, List.map_cons, List.map_nil, List.cons_append, List.nil_append, List.set_cons_zero, List.set_cons_succ]; (repeat' first | trivial | rfl | constructor)))) ?_
          refine any_one 13 rfl (by first | rfl | decide +kernel) rfl rfl (OpOk.step (ok_store rfl ti_api_Zone (by decide) rfl rfl rfl rfl rfl (by first | exact Nat.le_of_ble_eq_true rfl | simp) (by first | exact .inl ⟨rfl, rfl⟩ | exact .inr rfl))) (.inr (by first | (simp [HeldL]; done) | (simp only [HeldL, List.map_cons, List.map_nil, List.cons_append, List.nil_append, List.set_cons_zero, List.set_cons_succ]; (repeat' first | trivial | rfl | constructor)))) ?_
          refine any_done rfl ?_
          first | exact hJ22 _ _ (TEnt.toH rfl ⟨rfl, rfl, rfl, rfl, rfl, trivial⟩) | exact hJ22 _ _ (TEnt.fin [0, 1, 3, 2] (by decide) (by simp) (by show [some (Blk.ren _ (StB a)), some (Blk.ren _ (StB b)), some (Blk.ren _ (ZnB y)), some (Blk.ren _ (ZnB z))] = _; rw [StB_ren, StB_ren, ZnB_ren, ZnB_ren]) ⟨rfl, rfl, rfl, rfl, rfl, trivial⟩)
        refine T.seq fun K23 hK23 => ?_
        refine T.seq fun K24 hK24 => ?_
        refine T.region ?_ -- region 12
        refine ro rfl rfl (OpOk.step (ok_fieldAddr rfl ti_api_Zone rfl rfl ti_int (by decide) rfl)) ?_
        refine ro rfl rfl (OpOk.step (ok_load rfl ti_int rfl rfl)) ?_
        refine ro rfl rfl (OpOk.step (ok_fieldAddr rfl ti_api_Zone rfl rfl ti_int (by decide) rfl)) ?_
        refine ro rfl rfl (OpOk.step (ok_load rfl ti_int rfl rfl)) ?_
        refine ro rfl rfl (OpOk.step (ok_binOp rfl ti_int rfl)) ?_
        refine ro_case rfl rfl (OpOk.step (ok_moveb (.inl rfl) rfl)) (fun hb => ?_) (fun hb => ?_)
        ·(try simp only [dE] at hb)
         refine ro_skip rfl rfl ?_
         refine ro_skip rfl rfl ?_
         refine ro_skip rfl rfl ?_
         refine ro_skip rfl rfl ?_
         refine ro_skip rfl rfl ?_
         refine ro rfl rfl (OpOk.step (ok_pickb (t := true) (d := true) rfl rfl rfl)) ?_
         refine ro rfl rfl (OpOk.step (ok_moveb (c := true) (.inl rfl) rfl)) ?_
         refine ro_skip rfl rfl ?_
         refine ro_skip rfl rfl ?_
         refine ro_skip rfl rfl ?_
         refine ro_skip rfl rfl ?_
         refine ro_skip rfl rfl ?_
         refine ro rfl rfl (OpOk.step (ok_pickb (t := true) (d := true) rfl rfl rfl)) ?_
         refine ro rfl rfl (OpOk.step (ok_moveb (c := true) (.inl rfl) rfl)) ?_
         refine ro_skip rfl rfl ?_
         refine ro_skip rfl rfl ?_
         refine ro_skip rfl rfl ?_
         refine ro_skip rfl rfl ?_
         refine ro_skip rfl rfl ?_
         refine ro rfl rfl (OpOk.step (ok_pickb (t := true) (d := true) rfl rfl rfl)) ?_
         refine ro rfl rfl (OpOk.step (ok_moveb (c := true) (.inl rfl) rfl)) ?_
         refine ro_skip rfl rfl ?_
         refine ro_skip rfl rfl ?_
         refine ro_skip rfl rfl ?_
         refine ro_skip rfl rfl ?_
         refine ro_skip rfl rfl ?_
         refine ro rfl rfl (OpOk.step (ok_pickb (t := true) (d := true) rfl rfl rfl)) ?_
         refine ro rfl rfl (OpOk.step (ok_moveb (c := true) (.inl rfl) rfl)) ?_
         refine ro_skip rfl rfl ?_
         refine ro_skip rfl rfl ?_
         refine ro_skip rfl rfl ?_
         refine ro_skip rfl rfl ?_
         refine ro_skip rfl rfl ?_
         refine ro_skip rfl rfl ?_
         refine ro_skip rfl rfl ?_
         refine ro rfl rfl (OpOk.step (ok_pickb (t := true) (d := true) rfl rfl rfl)) ?_
         refine ro_nil ?_
         refine keepK hK24 [2, 3, 6, 7, 8, 123] (by dsimp) (by dsimp) ?_
         refine T.cond_true rfl ?_
         refine T.seq fun K25 hK25 => ?_
         refine T.region ?_ -- region 13
         refine ro rfl rfl (OpOk.step (ok_moveb (c := false) (.inr rfl) rfl)) ?_
         refine ro_nil ?_
         refine keepK hK25 [4] (by dsimp) (by dsimp) ?_
         refine T.ret (hQ _ _ _ rfl ?_).1 -- ret 7
         exact by (rw [seB_false (fun h => by obtain ⟨⟨h1, h2, h3, h4, h5⟩, h6, _⟩ := h.2.2 w y z hy hz; first | contradiction | omega | (simp only [Prs_len] at *; omega) | (simp_all; done))]; exact TEnt.fin [] (by decide) (by simp) rfl ⟨rfl, trivial⟩)
        ·(try simp only [dE] at hb)
         refine ro rfl rfl (OpOk.step (ok_fieldAddr rfl ti_api_Zone rfl rfl ti_int (by decide) rfl)) ?_
         refine ro rfl rfl (OpOk.step (ok_load rfl ti_int rfl rfl)) ?_
         refine ro rfl rfl (OpOk.step (ok_fieldAddr rfl ti_api_Zone rfl rfl ti_int (by decide) rfl)) ?_
         refine ro rfl rfl (OpOk.step (ok_load rfl ti_int rfl rfl)) ?_
         refine ro rfl rfl (OpOk.step (ok_binOp rfl ti_int rfl)) ?_
         refine ro rfl rfl (OpOk.step (ok_pick rfl rfl)) ?_
         refine ro_case rfl rfl (OpOk.step (ok_moveb (.inl rfl) rfl)) (fun hb => ?_) (fun hb => ?_)
         ·(try simp only [dE] at hb)
          refine ro_skip rfl rfl ?_
          refine ro_skip rfl rfl ?_
          refine ro_skip rfl rfl ?_
          refine ro_skip rfl rfl ?_
          refine ro_skip rfl rfl ?_
          refine ro rfl rfl (OpOk.step (ok_pickb (t := true) (d := true) rfl rfl rfl)) ?_
          refine ro rfl rfl (OpOk.step (ok_moveb (c := true) (.inl rfl) rfl)) ?_
          refine ro_skip rfl rfl ?_
          refine ro_skip rfl rfl ?_
          refine ro_skip rfl rfl ?_
          refine ro_skip rfl rfl ?_
          refine ro_skip rfl rfl ?_
          refine ro rfl rfl (OpOk.step (ok_pickb (t := true) (d := true) rfl rfl rfl)) ?_
          refine ro rfl rfl (OpOk.step (ok_moveb (c := true) (.inl rfl) rfl)) ?_
          refine ro_skip rfl rfl ?_
          refine ro_skip rfl rfl ?_
          refine ro_skip rfl rfl ?_
          refine ro_skip rfl rfl ?_
          refine ro_skip rfl rfl ?_
          refine ro rfl rfl (OpOk.step (ok_pickb (t := true) (d := true) rfl rfl rfl)) ?_
          refine ro rfl rfl (OpOk.step (ok_moveb (c := true) (.inl rfl) rfl)) ?_
          refine ro_skip rfl rfl ?_
          refine ro_skip rfl rfl ?_
          refine ro_skip rfl rfl ?_
          refine ro_skip rfl rfl ?_
          refine ro_skip rfl rfl ?_
          refine ro_skip rfl rfl ?_
          refine ro_skip rfl rfl ?_
          refine ro rfl rfl (OpOk.step (ok_pickb (t := true) (d := true) rfl rfl rfl)) ?_
          refine ro_nil ?_
          refine keepK hK24 [2, 3, 6, 7, 8, 123] (by dsimp) (by dsimp) ?_
          refine T.cond_true rfl ?_
          refine T.seq fun K26 hK26 => ?_
          refine T.region ?_ -- region 13
          refine ro rfl rfl (OpOk.step (ok_moveb (c := false) (.inr rfl) rfl)) ?_
          refine ro_nil ?_
          refine keepK hK26 [4] (by dsimp) (by dsimp) ?_
          refine T.ret (hQ _ _ _ rfl ?_).1 -- ret 8
          exact by (rw [seB_false (fun h => by obtain ⟨⟨h1, h2, h3, h4, h5⟩, h6, _⟩ := h.2.2 w y z hy hz; first | contradiction | omega | (simp only [Prs_len] at *; omega) | (simp_all; done))]; exact TEnt.fin [] (by decide) (by simp) rfl ⟨rfl, trivial⟩)
         ·(try simp only [dE] at hb)
          refine ro rfl rfl (OpOk.step (ok_fieldAddr rfl ti_api_Zone rfl rfl ti_bool (by decide) rfl)) ?_
          refine ro rfl rfl (OpOk.step (ok_load rfl ti_bool rfl rfl)) ?_
          refine ro rfl rfl (OpOk.step (ok_fieldAddr rfl ti_api_Zone rfl rfl ti_bool (by decide) rfl)) ?_
          refine ro rfl rfl (OpOk.step (ok_load rfl ti_bool rfl rfl)) ?_
          refine ro rfl rfl (OpOk.step (ok_binOp rfl ti_bool rfl)) ?_
          refine ro rfl rfl (OpOk.step (ok_pick rfl rfl)) ?_
          refine ro_case rfl rfl (OpOk.step (ok_moveb (.inl rfl) rfl)) (fun hb => ?_) (fun hb => ?_)
          ·(try simp only [dE] at hb)
           refine ro_skip rfl rfl ?_
           refine ro_skip rfl rfl ?_
           refine ro_skip rfl rfl ?_
           refine ro_skip rfl rfl ?_
           refine ro_skip rfl rfl ?_
           refine ro rfl rfl (OpOk.step (ok_pickb (t := true) (d := true) rfl rfl rfl)) ?_
           refine ro rfl rfl (OpOk.step (ok_moveb (c := true) (.inl rfl) rfl)) ?_
           refine ro_skip rfl rfl ?_
           refine ro_skip rfl rfl ?_
           refine ro_skip rfl rfl ?_
           refine ro_skip rfl rfl ?_
           refine ro_skip rfl rfl ?_
           refine ro rfl rfl (OpOk.step (ok_pickb (t := true) (d := true) rfl rfl rfl)) ?_
           refine ro rfl rfl (OpOk.step (ok_moveb (c := true) (.inl rfl) rfl)) ?_
           refine ro_skip rfl rfl ?_
           refine ro_skip rfl rfl ?_
           refine ro_skip rfl rfl ?_
           refine ro_skip rfl rfl ?_
           refine ro_skip rfl rfl ?_
           refine ro_skip rfl rfl ?_
           refine ro_skip rfl rfl ?_
           refine ro rfl rfl (OpOk.step (ok_pickb (t := true) (d := true) rfl rfl rfl)) ?_
           refine ro_nil ?_
           refine keepK hK24 [2, 3, 6, 7, 8, 123] (by dsimp) (by dsimp) ?_
           refine T.cond_true rfl ?_
           refine T.seq fun K27 hK27 => ?_
           refine T.region ?_ -- region 13
           refine ro rfl rfl (OpOk.step (ok_moveb (c := false) (.inr rfl) rfl)) ?_
           refine ro_nil ?_
           refine keepK hK27 [4] (by dsimp) (by dsimp) ?_
           refine T.ret (hQ _ _ _ rfl ?_).1 -- ret 9
           exact by (rw [seB_false (fun h => by obtain ⟨⟨h1, h2, h3, h4, h5⟩, h6, _⟩ := h.2.2 w y z hy hz; first | contradiction | omega | (simp only [Prs_len] at *; omega) | (simp_all; done))]; exact TEnt.fin [] (by decide) (by simp) rfl ⟨rfl, trivial⟩)
          ·(try simp only [dE] at hb)
           refine ro rfl rfl (OpOk.step (ok_fieldAddr rfl ti_api_Zone rfl rfl ti_int (by decide) rfl)) ?_
           refine ro rfl rfl (OpOk.step (ok_load rfl ti_int rfl rfl)) ?_
           refine ro rfl rfl (OpOk.step (ok_fieldAddr rfl ti_api_Zone rfl rfl ti_int (by decide) rfl)) ?_
           refine ro rfl rfl (OpOk.step (ok_load rfl ti_int rfl rfl)) ?_
           refine ro rfl rfl (OpOk.step (ok_binOp rfl ti_int rfl)) ?_
           refine ro rfl rfl (OpOk.step (ok_pick rfl rfl)) ?_
           refine ro_case rfl rfl (OpOk.step (ok_moveb (.inl rfl) rfl)) (fun hb => ?_) (fun hb => ?_)
           ·(try simp only [dE] at hb)
            refine ro_skip rfl rfl ?_
            refine ro_skip rfl rfl ?_
            refine ro_skip rfl rfl ?_
            refine ro_skip rfl rfl ?_
            refine ro_skip rfl rfl ?_
            refine ro rfl rfl (OpOk.step (ok_pickb (t := true) (d := true) rfl rfl rfl)) ?_
            refine ro rfl rfl (OpOk.step (ok_moveb (c := true) (.inl rfl) rfl)) ?_
            refine ro_skip rfl rfl ?_
            refine ro_skip rfl rfl ?_
            refine ro_skip rfl rfl ?_
            refine ro_skip rfl rfl ?_
            refine ro_skip rfl rfl ?_
            refine ro_skip rfl rfl ?_
            refine ro_skip rfl rfl ?_
            refine ro rfl rfl (OpOk.step (ok_pickb (t := true) (d := true) rfl rfl rfl)) ?_
            refine ro_nil ?_
            refine keepK hK24 [2, 3, 6, 7, 8, 123] (by dsimp) (by dsimp) ?_
            refine T.cond_true rfl ?_
            refine T.seq fun K28 hK28 => ?_
            refine T.region ?_ -- region 13
            refine ro rfl rfl (OpOk.step (ok_moveb (c := false) (.inr rfl) rfl)) ?_
            refine ro_nil ?_
            refine keepK hK28 [4] (by dsimp) (by dsimp) ?_
            refine T.ret (hQ _ _ _ rfl ?_).1 -- ret 10
            exact by (rw [seB_false (fun h => by obtain ⟨⟨h1, h2, h3, h4, h5⟩, h6, _⟩ := h.2.2 w y z hy hz; first | contradiction | omega | (simp only [Prs_len] at *; omega) | (simp_all; done))]; exact TEnt.fin [] (by decide) (by simp) rfl ⟨rfl, trivial⟩)
           ·(try simp only [dE] at hb)
            refine ro rfl rfl (OpOk.step (ok_fieldAddr rfl ti_api_Zone rfl rfl ti_bool (by decide) rfl)) ?_
            refine ro rfl rfl (OpOk.step (ok_load rfl ti_bool rfl rfl)) ?_
            refine ro rfl rfl (OpOk.step (ok_fieldAddr rfl ti_api_Zone rfl rfl ti_bool (by decide) rfl)) ?_
            refine ro rfl rfl (OpOk.step (ok_load rfl ti_bool rfl rfl)) ?_
            refine ro rfl rfl (OpOk.step (ok_binOp rfl ti_bool rfl)) ?_
            refine ro rfl rfl (OpOk.step (ok_pick rfl rfl)) ?_
            refine ro_case rfl rfl (OpOk.step (ok_moveb (.inl rfl) rfl)) (fun hb => ?_) (fun hb => ?_)
            ·(try simp only [dE] at hb)
             refine ro_skip rfl rfl ?_
             refine ro_skip rfl rfl ?_
             refine ro_skip rfl rfl ?_
             refine ro_skip rfl rfl ?_
             refine ro_skip rfl rfl ?_
             refine ro_skip rfl rfl ?_
             refine ro_skip rfl rfl ?_
             refine ro rfl rfl (OpOk.step (ok_pickb (t := true) (d := true) rfl rfl rfl)) ?_
             refine ro_nil ?_
             refine keepK hK24 [2, 3, 6, 7, 8, 123] (by dsimp) (by dsimp) ?_
             refine T.cond_true rfl ?_
             refine T.seq fun K29 hK29 => ?_
             refine T.region ?_ -- region 13
             refine ro rfl rfl (OpOk.step (ok_moveb (c := false) (.inr rfl) rfl)) ?_
             refine ro_nil ?_
             refine keepK hK29 [4] (by dsimp) (by dsimp) ?_
             refine T.ret (hQ _ _ _ rfl ?_).1 -- ret 11
             exact by (rw [seB_false (fun h => by obtain ⟨⟨h1, h2, h3, h4, h5⟩, h6, _⟩ := h.2.2 w y z hy hz; first | contradiction | omega | (simp only [Prs_len] at *; omega) | (simp_all; done))]; exact TEnt.fin [] (by decide) (by simp) rfl ⟨rfl, trivial⟩)
            ·(try simp only [dE] at hb)
             refine ro rfl rfl (OpOk.step (ok_fieldAddr rfl ti_api_Zone rfl rfl ti_Lapi_Par (by decide) rfl)) ?_
             refine ro rfl rfl (OpOk.step (ok_load rfl ti_Lapi_Par rfl rfl)) ?_
             refine ro rfl rfl (OpOk.step (ok_len' rfl rfl ti_Lapi_Par rfl (by first | exact ints_length _ _ | exact rowsA_length _ _ | exact Cms_len _ | exact mapLen _ | rfl))) ?_
             refine ro rfl rfl (OpOk.step (ok_fieldAddr rfl ti_api_Zone rfl rfl ti_Lapi_Par (by decide) rfl)) ?_
             refine ro rfl rfl (OpOk.step (ok_load rfl ti_Lapi_Par rfl rfl)) ?_
             refine ro rfl rfl (OpOk.step (ok_len' rfl rfl ti_Lapi_Par rfl (by first | exact ints_length _ _ | exact rowsA_length _ _ | exact Cms_len _ | exact mapLen _ | rfl))) ?_
             refine ro rfl rfl (OpOk.step (ok_binOp rfl ti_int rfl)) ?_
             refine ro rfl rfl (OpOk.step (ok_pick rfl rfl)) ?_
             refine ro_nil ?_
             refine keepK hK24 [2, 3, 6, 7, 8, 123] (by dsimp) (by dsimp) ?_
             refine T.cond rfl (fun hc => ?_) (fun hc => ?_) -- cond 5
             ·(try simp only [dE] at hc)
              refine T.seq fun K30 hK30 => ?_
              refine T.region ?_ -- region 13
              refine ro rfl rfl (OpOk.step (ok_moveb (c := false) (.inr rfl) rfl)) ?_
              refine ro_nil ?_
              refine keepK hK30 [4] (by dsimp) (by dsimp) ?_
              refine T.ret (hQ _ _ _ rfl ?_).1 -- ret 12
              exact by (rw [seB_false (fun h => by obtain ⟨⟨h1, h2, h3, h4, h5⟩, h6, _⟩ := h.2.2 w y z hy hz; first | contradiction | omega | (simp only [Prs_len] at *; omega) | (simp_all; done))]; exact TEnt.fin [] (by decide) (by simp) rfl ⟨rfl, trivial⟩)
             ·(try simp only [dE] at hc)
              have hze : (y.gen = z.gen ∧ y.slot = z.slot ∧ y.full = z.full ∧ y.w = z.w ∧ y.whole = z.whole) ∧ y.pars.length = z.pars.length := by
                simp only [Prs_len] at *
                refine ⟨⟨?_, ?_, ?_, ?_, ?_⟩, ?_⟩ <;> first | assumption | omega | (simp_all; done)
              refine T.skip ?_
              refine keepK hK23 [2, 3, 6, 7, 8] (by dsimp) (by dsimp) ?_
              refine T.seq fun K31 hK31 => ?_
              refine T.region ?_ -- region 14
              refine ro rfl rfl (OpOk.step (ok_move (.inr rfl))) ?_
              refine ro_nil ?_
              refine keepK hK31 [2, 3, 6, 7, 8, 9] (by dsimp) (by dsimp) ?_
              refine T.block ?_
              refine T.loopI (ι := Nat) (fun k => k ≤ y.pars.length ∧ ∀ (k' : Nat), k' < k → ∀ u v, y.pars[k']? = some u → z.pars[k']? = some v → PE u v) (fun k => y.pars.length - k) (fun k => ([(2, .ref 0 0 0), (3, .ref 1 0 0), (6, .int w), (7, .ref 2 0 0), (8, .ref 3 0 0), (9, .int k)], [some (StB a), some (StB b), some (ZnB y), some (ZnB z)])) 0 ⟨Nat.zero_le _, fun k hk => absurd hk (Nat.not_lt_zero _)⟩ (TEnt.toH rfl ⟨rfl, rfl, rfl, rfl, rfl, rfl, trivial⟩) (fun i hi => ?_) -- loop 3
              obtain ⟨hkl, hpp⟩ := hi
              refine T.seq fun K32 hK32 => ?_
              refine T.seq fun K33 hK33 => ?_
              refine T.region ?_ -- region 15
              refine ro rfl rfl (OpOk.step (ok_move (.inl rfl))) ?_
              refine ro rfl rfl (OpOk.step (ok_fieldAddr rfl ti_api_Zone rfl rfl ti_Lapi_Par (by decide) rfl)) ?_
              refine ro rfl rfl (OpOk.step (ok_load rfl ti_Lapi_Par rfl rfl)) ?_
              refine ro rfl rfl (OpOk.step (ok_len' rfl rfl ti_Lapi_Par rfl (by first | exact ints_length _ _ | exact rowsA_length _ _ | exact Cms_len _ | exact mapLen _ | rfl))) ?_
              refine ro rfl rfl (OpOk.step (ok_binOp rfl ti_int rfl)) ?_
              refine ro_nil ?_
              refine keepK hK33 [2, 3, 6, 7, 8, 9, 128] (by dsimp) (by dsimp) ?_
              refine T.cond rfl (fun hc => ?_) (fun hc => ?_) -- cond 6
              ·(try simp only [dE] at hc)
               rw [Prs_len] at hc
               obtain ⟨p, hp⟩ : ∃ p, y.pars[i]? = some p := ⟨_, List.getElem?_eq_getElem (by omega)⟩
               obtain ⟨q, hq⟩ : ∃ q, z.pars[i]? = some q := ⟨_, List.getElem?_eq_getElem (by omega)⟩
               refine T.skip ?_
               refine keepK hK32 [2, 3, 6, 7, 8, 9] (by dsimp) (by dsimp) ?_
               refine T.seq fun K34 hK34 => ?_
               refine T.block ?_
               refine T.seq fun K35 hK35 => ?_
               refine T.drawH mixed [] ?_ -- region 17
               refine any_take 0 rfl (by first | rfl | decide +kernel) rfl (HeldL.refl _) (fun H' hH => OpOk.step (ok_fieldAddr rfl ti_api_Zone rfl rfl ti_Lapi_Par (by decide) rfl)) ?_
               refine any_take 1 rfl (by first | rfl | decide +kernel) rfl (HeldL.refl _) (fun H' hH => OpOk.step (ok_load rfl ti_Lapi_Par (locA_held hH rfl) rfl)) ?_
               refine any_take 2 rfl (by first | rfl | decide +kernel) rfl (HeldL.refl _) (fun H' hH => OpOk.step (ok_move (.inl rfl))) ?_
               refine any_take 3 rfl (by first | rfl | decide +kernel) rfl (HeldL.refl _) (fun H' hH => OpOk.step (by exact ok_index_map (F := PrC) rfl ti_Lapi_Par rfl ti_api_Par rfl rfl rfl hp (by simp [PrC]))) ?_
               refine any_take 4 rfl (by first | rfl | decide +kernel) rfl (HeldL.refl _) (fun H' hH => OpOk.step (ok_fieldAddr rfl ti_api_Par rfl rfl ti_int (by decide) rfl)) ?_
               refine any_take 5 rfl (by first | rfl | decide +kernel) rfl (HeldL.refl _) (fun H' hH => OpOk.step (ok_load rfl ti_int (locA_held hH rfl) rfl)) ?_
               refine any_take 6 rfl (by first | rfl | decide +kernel) rfl (HeldL.refl _) (fun H' hH => OpOk.step (ok_fieldAddr rfl ti_api_Zone rfl rfl ti_Lapi_Par (by decide) rfl)) ?_
               refine any_take 7 rfl (by first | rfl | decide +kernel) rfl (HeldL.refl _) (fun H' hH => OpOk.step (ok_load rfl ti_Lapi_Par (locA_held hH rfl) rfl)) ?_
               refine any_take 8 rfl (by first | rfl | decide +kernel) rfl (HeldL.refl _) (fun H' hH => OpOk.step (ok_move (.inl rfl))) ?_
               refine any_take 9 rfl (by first | rfl | decide +kernel) rfl (HeldL.refl _) (fun H' hH => OpOk.step (by exact ok_index_map (F := PrC) rfl ti_Lapi_Par rfl ti_api_Par rfl rfl rfl hq (by simp [PrC]))) ?_
               refine any_take 10 rfl (by first | rfl | decide +kernel) rfl (HeldL.refl _) (fun H' hH => OpOk.step (ok_fieldAddr rfl ti_api_Par rfl rfl ti_int (by decide) rfl)) ?_
               refine any_take 11 rfl (by first | rfl | decide +kernel) rfl (HeldL.refl _) (fun H' hH => OpOk.step (ok_load rfl ti_int (locA_held hH rfl) rfl)) ?_
               refine any_take 12 rfl (by first | rfl | decide +kernel) rfl (HeldL.refl _) (fun H' hH => OpOk.step (ok_binOp rfl ti_int rfl)) ?_
               refine any_take_case 13 rfl (by first | rfl | decide +kernel) rfl (HeldL.refl _) (fun H' hH => OpOk.step (ok_moveb (.inl rfl) rfl)) (fun hb => ?_) (fun hb => ?_)
               ·(try simp only [dE] at hb)
                refine any_skip 14 rfl (by first | rfl | decide +kernel) rfl (HeldL.refl _) ?_
                refine any_skip 15 rfl (by first | rfl | decide +kernel) rfl (HeldL.refl _) ?_
                refine any_skip 16 rfl (by first | rfl | decide +kernel) rfl (HeldL.refl _) ?_
                refine any_skip 17 rfl (by first | rfl | decide +kernel) rfl (HeldL.refl _) ?_
                refine any_skip 18 rfl (by first | rfl | decide +kernel) rfl (HeldL.refl _) ?_
                refine any_skip 19 rfl (by first | rfl | decide +kernel) rfl (HeldL.refl _) ?_
                refine any_skip 20 rfl (by first | rfl | decide +kernel) rfl (HeldL.refl _) ?_
                refine any_skip 21 rfl (by first | rfl | decide +kernel) rfl (HeldL.refl _) ?_
                refine any_skip 22 rfl (by first | rfl | decide +kernel) rfl (HeldL.refl _) ?_
                refine any_skip 23 rfl (by first | rfl | decide +kernel) rfl (HeldL.refl _) ?_
                refine any_skip 24 rfl (by first | rfl | decide +kernel) rfl (HeldL.refl _) ?_
                refine any_skip 25 rfl (by first | rfl | decide +kernel) rfl (HeldL.refl _) ?_
                refine any_skip 26 rfl (by first | rfl | decide +kernel) rfl (HeldL.refl _) ?_
                refine any_skip 27 rfl (by first | rfl | decide +kernel) rfl (HeldL.refl _) ?_
                refine any_skip 28 rfl (by first | rfl | decide +kernel) rfl (HeldL.refl _) ?_
                refine any_take 29 rfl (by first | rfl | decide +kernel) rfl (HeldL.refl _) (fun H' hH => OpOk.step (ok_pickb (t := true) (d := true) rfl rfl rfl)) ?_
                refine any_done rfl ?_
                refine keepK hK35 [2, 3, 6, 7, 8, 9, 160] (by dsimp) (by dsimp) ?_
                refine T.cond_true rfl ?_
                refine T.seq fun K36 hK36 => ?_
                refine T.region ?_ -- region 18
                refine ro rfl rfl (OpOk.step (ok_moveb (c := false) (.inr rfl) rfl)) ?_
                refine ro_nil ?_
                refine keepK hK36 [4] (by dsimp) (by dsimp) ?_
                refine T.ret (hQ _ _ _ rfl ?_).1 -- ret 13
                exact by (rw [seB_false (fun h => by obtain ⟨h1, h2⟩ := (h.2.2 w y z hy hz).2.2 i p q hp hq; first | omega | contradiction | (simp_all; done))]; exact TEnt.fin [] (by decide) (by simp) rfl ⟨rfl, trivial⟩)
               ·(try simp only [dE] at hb)
                refine any_take 14 rfl (by first | rfl | decide +kernel) rfl (HeldL.refl _) (fun H' hH => OpOk.step (ok_fieldAddr rfl ti_api_Zone rfl rfl ti_Lapi_Par (by decide) rfl)) ?_
                refine any_take 15 rfl (by first | rfl | decide +kernel) rfl (HeldL.refl _) (fun H' hH => OpOk.step (ok_load rfl ti_Lapi_Par (locA_held hH rfl) rfl)) ?_
                refine any_take 16 rfl (by first | rfl | decide +kernel) rfl (HeldL.refl _) (fun H' hH => OpOk.step (ok_move (.inl rfl))) ?_
                refine any_take 17 rfl (by first | rfl | decide +kernel) rfl (HeldL.refl _) (fun H' hH => OpOk.step (by exact ok_index_map (F := PrC) rfl ti_Lapi_Par rfl ti_api_Par rfl rfl rfl hp (by simp [PrC]))) ?_
                refine any_take 18 rfl (by first | rfl | decide +kernel) rfl (HeldL.refl _) (fun H' hH => OpOk.step (ok_fieldAddr rfl ti_api_Par rfl rfl ti_Luint8 (by decide) rfl)) ?_
                refine any_take 19 rfl (by first | rfl | decide +kernel) rfl (HeldL.refl _) (fun H' hH => OpOk.step (ok_load rfl ti_Luint8 (locA_held hH rfl) rfl)) ?_
                refine any_take 20 rfl (by first | rfl | decide +kernel) rfl (HeldL.refl _) (fun H' hH => OpOk.step (ok_conv_str rfl ti_Luint8 ti_string rfl ti_uint8 rfl rfl (rowA_held hH rfl) rfl (bytesOf_ints _))) ?_
                refine any_take 21 rfl (by first | rfl | decide +kernel) rfl (HeldL.refl _) (fun H' hH => OpOk.step (ok_fieldAddr rfl ti_api_Zone rfl rfl ti_Lapi_Par (by decide) rfl)) ?_
                refine any_take 22 rfl (by first | rfl | decide +kernel) rfl (HeldL.refl _) (fun H' hH => OpOk.step (ok_load rfl ti_Lapi_Par (locA_held hH rfl) rfl)) ?_
                refine any_take 23 rfl (by first | rfl | decide +kernel) rfl (HeldL.refl _) (fun H' hH => OpOk.step (ok_move (.inl rfl))) ?_
                refine any_take 24 rfl (by first | rfl | decide +kernel) rfl (HeldL.refl _) (fun H' hH => OpOk.step (by exact ok_index_map (F := PrC) rfl ti_Lapi_Par rfl ti_api_Par rfl rfl rfl hq (by simp [PrC]))) ?_
                refine any_take 25 rfl (by first | rfl | decide +kernel) rfl (HeldL.refl _) (fun H' hH => OpOk.step (ok_fieldAddr rfl ti_api_Par rfl rfl ti_Luint8 (by decide) rfl)) ?_
                refine any_take 26 rfl (by first | rfl | decide +kernel) rfl (HeldL.refl _) (fun H' hH => OpOk.step (ok_load rfl ti_Luint8 (locA_held hH rfl) rfl)) ?_
                refine any_take 27 rfl (by first | rfl | decide +kernel) rfl (HeldL.refl _) (fun H' hH => OpOk.step (ok_conv_str rfl ti_Luint8 ti_string rfl ti_uint8 rfl rfl (rowA_held hH rfl) rfl (bytesOf_ints _))) ?_
                refine any_take 28 rfl (by first | rfl | decide +kernel) rfl (HeldL.refl _) (fun H' hH => OpOk.step ((ok_binOp rfl ti_string rfl).eq (x' := .b (!strEq p.b q.b)) rfl rfl)) ?_
                refine any_take 29 rfl (by first | rfl | decide +kernel) rfl (HeldL.refl _) (fun H' hH => OpOk.step (ok_pick rfl rfl)) ?_
                refine any_done rfl ?_
                refine keepK hK35 [2, 3, 6, 7, 8, 9, 160] (by dsimp) (by dsimp) ?_
                refine T.cond rfl (fun hc => ?_) (fun hc => ?_) -- cond 7
                ·(try simp only [dE] at hc)
                 refine T.seq fun K37 hK37 => ?_
                 refine T.region ?_ -- region 18
                 refine ro rfl rfl (OpOk.step (ok_moveb (c := false) (.inr rfl) rfl)) ?_
                 refine ro_nil ?_
                 refine keepK hK37 [4] (by dsimp) (by dsimp) ?_
                 refine T.ret (hQ _ _ _ rfl ?_).1 -- ret 14
                 exact by (rw [seB_false (fun h => by obtain ⟨h1, h2⟩ := (h.2.2 w y z hy hz).2.2 i p q hp hq; first | omega | contradiction | (simp_all; done))]; exact TEnt.fin [] (by decide) (by simp) rfl ⟨rfl, trivial⟩)
                ·(try simp only [dE] at hc)
                 refine T.skip ?_
                 refine keepK hK34 [2, 3, 6, 7, 8, 9] (by dsimp) (by dsimp) ?_
                 refine T.region ?_ -- region 16
                 refine ro rfl rfl (OpOk.step (ok_move (.inl rfl))) ?_
                 refine ro rfl rfl (OpOk.step (ok_add64 rfl ti_int rfl rfl (by omega) (by omega))) ?_
                 refine ro rfl rfl (OpOk.step (ok_move (.inr rfl))) ?_
                 refine ro_nil ?_
                 exact ⟨i + 1, ⟨by omega, upto_step hpp hp hq ⟨by omega, by assumption⟩⟩, by omega, TEnt.toH rfl ⟨rfl, rfl, rfl, rfl, rfl, rfl, trivial⟩⟩
              ·(try simp only [dE] at hc)
               rw [Prs_len] at hc
               have hky : i = y.pars.length := by omega
               subst hky
               refine T.exit ?_
               refine keepK hK20 [2, 3, 6] (by dsimp) (by dsimp) ?_
               refine T.region ?_ -- region 10
               refine ro rfl rfl (OpOk.step (ok_move (.inl rfl))) ?_
               refine ro rfl rfl (OpOk.step (ok_add64 rfl ti_int rfl rfl (by omega) (by omega))) ?_
               refine ro rfl rfl (OpOk.step (ok_move (.inr rfl))) ?_
               refine ro_nil ?_
               exact ⟨w + 1, ⟨by omega, upto_step hzs hy hz ⟨hze.1, hze.2, upto_all hpp⟩⟩, by omega, TEnt.fin [0, 1] (by decide) (by simp) (by show [some (Blk.ren _ (StB a)), some (Blk.ren _ (StB b))] = _; rw [StB_ren, StB_ren]) ⟨rfl, rfl, rfl, trivial⟩⟩
       ·(try simp only [dE] at hc)
        rw [Zns_len] at hc
        have hin : i = a.zs.length := by omega
        subst hin
        refine T.exit ?_
        refine keepK hK16 [] (by dsimp) (by dsimp) ?_
        refine T.seq fun K38 hK38 => ?_
        refine T.region ?_ -- region 19
        refine ro rfl rfl (OpOk.step (ok_moveb (c := true) (.inr rfl) rfl)) ?_
        refine ro_nil ?_
        refine keepK hK38 [4] (by dsimp) (by dsimp) ?_
        refine T.ret (hQ _ _ _ rfl ?_).1 -- ret 15
        exact by (rw [seB_true ⟨hhead, hst, upto_all hzs⟩]; exact TEnt.fin [] (by decide) (by simp) rfl ⟨rfl, trivial⟩)
end Go.Proofs.Ytlegolcbjjjofaa.AmF
