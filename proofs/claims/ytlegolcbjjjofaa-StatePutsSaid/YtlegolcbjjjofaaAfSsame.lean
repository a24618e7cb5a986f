/- Walks over the abstract machine: states of the log: the program's own test whether two are the same. -/
import Derived.Test.YtlegolcbjjjofaaAfState15
namespace Go.Proofs.Ytlegolcbjjjofaa.AmF
open Go Go.AM
set_option maxRecDepth 100000
set_option maxHeartbeats 4000000
set_option linter.unusedSimpArgs false
set_option linter.unusedVariables false
attribute [local simp] tkeep tget tput ev cav argsTM pickA normT putA splice AV.cells ints_length rowsA_length Prs_len Zns_len
/-- Two rows, place by place. -/
def eqF {α : Type} (p : α → α → Bool) : List α → List α → Bool
  | [], [] => true
  | x :: l, y :: m => p x y && eqF p l m
  | _, _ => false
theorem eqF_len {α : Type} {p : α → α → Bool} : ∀ {l m : List α}, l.length ≠ m.length → eqF p l m = false
  | [], [], h => absurd rfl h
  | [], _ :: _, _ => rfl
  | _ :: _, [], _ => rfl
  | x :: l, y :: m, h => by
    rw [eqF, eqF_len (l := l) (m := m) (by simpa using h), Bool.and_false]
theorem eqF_no {α : Type} {p : α → α → Bool} : ∀ {l m : List α} {i : Nat} {x y : α}, l[i]? = some x → m[i]? = some y → p x y = false → eqF p l m = false
  | [], _, _, _, _, h, _, _ => by simp at h
  | _ :: _, [], _, _, _, _, h, _ => by simp at h
  | x :: l, y :: m, 0, _, _, h, h', hp => by
    simp at h h'
    subst h h'
    rw [eqF, hp, Bool.false_and]
  | x :: l, y :: m, i + 1, _, _, h, h', hp => by
    rw [eqF, eqF_no (i := i) (by simpa using h) (by simpa using h') hp, Bool.and_false]
theorem eqF_iff {α : Type} {p : α → α → Bool} : ∀ {l m : List α}, l.length = m.length → (eqF p l m = true ↔ ∀ (k : Nat) (x y : α), l[k]? = some x → m[k]? = some y → p x y = true)
  | [], [], _ => by simp [eqF]
  | [], _ :: _, h => by simp at h
  | _ :: _, [], h => by simp at h
  | x :: l, y :: m, h => by
    rw [eqF, Bool.and_eq_true, eqF_iff (l := l) (m := m) (by simpa using h)]
    constructor
    · rintro ⟨h1, h2⟩ k u v hu hv
      cases k with
      | zero => simp at hu hv; subst hu hv; exact h1
      | succ k => exact h2 k u v (by simpa using hu) (by simpa using hv)
    · intro h1
      exact ⟨h1 0 x y rfl rfl, fun k u v hu hv => h1 (k + 1) u v (by simpa using hu) (by simpa using hv)⟩
theorem eqF_all {α : Type} {p : α → α → Bool} {l m : List α} (hl : l.length = m.length) (h : ∀ (k : Nat), k < l.length → ∀ x y, l[k]? = some x → m[k]? = some y → p x y = true) : eqF p l m = true :=
  (eqF_iff hl).2 (upto_all h)
def peB (p q : Pr) : Bool := decide (p.w = q.w) && strEq p.b q.b
def zeB (y z : Zn) : Bool := (decide (y.gen = z.gen) && decide (y.slot = z.slot) && decide (y.full = z.full) && decide (y.w = z.w) && decide (y.whole = z.whole)) && eqF peB y.pars z.pars
def teB (a b : St) : Bool := (decide (a.c = b.c) && decide (a.ep = b.ep) && decide (a.sq = b.sq) && eqF (fun x y => decide (x = y)) a.st b.st) && eqF zeB a.zs b.zs
theorem peB_iff {p q : Pr} : peB p q = true ↔ PE p q := by simp [peB, PE]
theorem zeB_iff {y z : Zn} : zeB y z = true ↔ ZE y z := by
  unfold zeB ZE
  by_cases hl : y.pars.length = z.pars.length
  · simp only [Bool.and_eq_true, decide_eq_true_eq, eqF_iff hl, hl, true_and, peB_iff]
    constructor
    · rintro ⟨⟨⟨⟨⟨a, b⟩, c⟩, d⟩, e⟩, f⟩; exact ⟨⟨a, b, c, d, e⟩, f⟩
    · rintro ⟨⟨a, b, c, d, e⟩, f⟩; exact ⟨⟨⟨⟨⟨a, b⟩, c⟩, d⟩, e⟩, f⟩
  · rw [eqF_len hl, Bool.and_false]
    simp [hl]
theorem teB_eq (a b : St) : teB a b = seB a b := by
  have h : teB a b = true ↔ SE a b := by
    unfold teB SE
    by_cases h1 : a.st.length = b.st.length
    · by_cases h2 : a.zs.length = b.zs.length
      · simp only [Bool.and_eq_true, decide_eq_true_eq, eqF_iff h1, eqF_iff h2, h1, h2, and_true, zeB_iff]
        constructor
        · rintro ⟨⟨⟨⟨a, b⟩, c⟩, d⟩, e⟩; exact ⟨⟨a, b, c⟩, d, e⟩
        · rintro ⟨⟨a, b, c⟩, d, e⟩; exact ⟨⟨⟨⟨a, b⟩, c⟩, d⟩, e⟩
      · rw [eqF_len h2, Bool.and_false]
        simp [h2]
    · rw [eqF_len h1]
      simp [h1]
  by_cases hs : SE a b
  · rw [seB_true hs]; exact h.2 hs
  · rw [seB_false hs]; exact Bool.eq_false_iff.2 fun h' => hs (h.1 h')
theorem sequal_ok (a b : List Int) (ha : a.length ≤ 140737488355328) : CSpec Try.prog 88 [] [.fz 1 (ints .i64 a), .fz 1 (ints .i64 b)] [] (.b (eqF (fun x y => decide (x = y)) a b)) := by
 refine CSpec.body Try.func88 rfl rfl rfl rfl rfl fun Q hQ => ?_
 refine T.seq fun K1 hK1 => ?_
 refine T.region ?_ -- region 0
 refine ro rfl rfl (OpOk.step (ok_moveb (c := false) (.inr rfl) rfl)) ?_
 refine ro_nil ?_
 refine keepK hK1 [0, 1] (by dsimp) (by dsimp) ?_
 refine T.seq fun K2 hK2 => ?_
 refine T.seq fun K3 hK3 => ?_
 refine T.region ?_ -- region 1
 refine ro rfl rfl (OpOk.step (ok_move (.inl rfl))) ?_
 refine ro rfl rfl (OpOk.step (ok_len' rfl rfl ti_Lint rfl (by first | exact ints_length _ _ | exact rowsA_length _ _ | exact Cms_len _ | exact mapLen _ | rfl))) ?_
 refine ro rfl rfl (OpOk.step (ok_move (.inl rfl))) ?_
 refine ro rfl rfl (OpOk.step (ok_len' rfl rfl ti_Lint rfl (by first | exact ints_length _ _ | exact rowsA_length _ _ | exact Cms_len _ | exact mapLen _ | rfl))) ?_
 refine ro rfl rfl (OpOk.step (ok_binOp rfl ti_int rfl)) ?_
 refine ro_nil ?_
 refine keepK hK3 [0, 1, 10] (by dsimp) (by dsimp) ?_
 refine T.cond rfl (fun hc => ?_) (fun hc => ?_) -- cond 1
 ·(try simp only [dE] at hc)
  rw [eqF_len (by (try simp only [ints_length] at hc); omega)] at hQ
  refine T.seq fun K4 hK4 => ?_
  refine T.region ?_ -- region 2
  refine ro rfl rfl (OpOk.step (ok_moveb (c := false) (.inr rfl) rfl)) ?_
  refine ro_nil ?_
  refine keepK hK4 [4] (by dsimp) (by dsimp) ?_
  refine T.ret (hQ _ _ _ rfl ?_).1 -- ret 1
  exact TEnt.toH rfl ⟨rfl, trivial⟩
 ·(try simp only [dE] at hc)
  have hlen : a.length = b.length := by (try simp only [ints_length] at hc); omega
  refine T.skip ?_
  refine keepK hK2 [0, 1] (by dsimp) (by dsimp) ?_
  refine T.seq fun K5 hK5 => ?_
  refine T.seq fun K6 hK6 => ?_
  refine T.region ?_ -- region 3
  refine ro rfl rfl (OpOk.step (ok_move (.inl rfl))) ?_
  refine ro rfl rfl (OpOk.step (ok_len' rfl rfl ti_Lint rfl (by first | exact ints_length _ _ | exact rowsA_length _ _ | exact Cms_len _ | exact mapLen _ | rfl))) ?_
  refine ro rfl rfl (OpOk.step (ok_move (.inl rfl))) ?_
  refine ro_nil ?_
  refine keepK hK6 [0, 1, 12, 13] (by dsimp) (by dsimp) ?_
  refine T.block ?_
  refine T.loopI (ι := Nat) (fun i => i ≤ a.length ∧ ∀ (k : Nat), k < i → ∀ u v, a[k]? = some u → b[k]? = some v → decide (u = v) = true) (fun i => a.length - i) (fun i => ([(0, .fz 1 (ints .i64 a)), (1, .fz 1 (ints .i64 b)), (12, .int a.length), (13, .int i)], [])) 0 ⟨Nat.zero_le _, fun k hk => absurd hk (Nat.not_lt_zero _)⟩ (TEnt.toH rfl ⟨rfl, rfl, rfl, rfl, trivial⟩) (fun i hi => ?_) -- loop 1
  obtain ⟨hil, hst⟩ := hi
  refine T.seq fun K7 hK7 => ?_
  refine T.region ?_ -- region 4
  refine ro rfl rfl (OpOk.step (ok_binOp rfl ti_int rfl)) ?_
  refine ro_nil ?_
  refine keepK hK7 [0, 1, 12, 13, 14] (by dsimp) (by dsimp) ?_
  refine T.seq fun K8 hK8 => ?_
  refine T.cond rfl (fun hc => ?_) (fun hc => ?_) -- cond 2
  ·(try simp only [dE] at hc)
   obtain ⟨x, hx⟩ : ∃ x, a[i]? = some x := ⟨_, List.getElem?_eq_getElem (by omega)⟩
   obtain ⟨y, hy⟩ : ∃ y, b[i]? = some y := ⟨_, List.getElem?_eq_getElem (by omega)⟩
   refine T.skip ?_
   refine keepK hK8 [0, 1, 12, 13] (by dsimp) (by dsimp) ?_
   refine T.seq fun K9 hK9 => ?_
   refine T.block ?_
   refine T.seq fun K10 hK10 => ?_
   refine T.region ?_ -- region 5
   refine ro rfl rfl (OpOk.step (ok_move (.inl rfl))) ?_
   refine ro rfl rfl (OpOk.step (ok_move (.inr rfl))) ?_
   refine ro_nil ?_
   refine keepK hK10 [0, 1, 5, 12, 13] (by dsimp) (by dsimp) ?_
   refine T.seq fun K11 hK11 => ?_
   refine T.drawH mixed [] ?_ -- region 6
   refine any_take 0 rfl (by first | rfl | decide +kernel) rfl (HeldL.refl _) (fun H' hH => OpOk.step (ok_move (.inl rfl))) ?_
   refine any_take 1 rfl (by first | rfl | decide +kernel) rfl (HeldL.refl _) (fun H' hH => OpOk.step (ok_move (.inl rfl))) ?_
   refine any_take 2 rfl (by first | rfl | decide +kernel) rfl (HeldL.refl _) (fun H' hH => OpOk.step (by exact ok_index_ints rfl ti_Lint rfl ti_int rfl rfl rfl (by omega) (by simpa using hx))) ?_
   refine any_take 3 rfl (by first | rfl | decide +kernel) rfl (HeldL.refl _) (fun H' hH => OpOk.step (ok_load rfl ti_int (locA_held hH rfl) rfl)) ?_
   refine any_take 4 rfl (by first | rfl | decide +kernel) rfl (HeldL.refl _) (fun H' hH => OpOk.step (ok_move (.inl rfl))) ?_
   refine any_take 5 rfl (by first | rfl | decide +kernel) rfl (HeldL.refl _) (fun H' hH => OpOk.step (ok_move (.inl rfl))) ?_
   refine any_take 6 rfl (by first | rfl | decide +kernel) rfl (HeldL.refl _) (fun H' hH => OpOk.step (by exact ok_index_ints rfl ti_Lint rfl ti_int rfl rfl rfl (by omega) (by simpa using hy))) ?_
   refine any_take 7 rfl (by first | rfl | decide +kernel) rfl (HeldL.refl _) (fun H' hH => OpOk.step (ok_load rfl ti_int (locA_held hH rfl) rfl)) ?_
   refine any_take 8 rfl (by first | rfl | decide +kernel) rfl (HeldL.refl _) (fun H' hH => OpOk.step (ok_binOp rfl ti_int rfl)) ?_
   refine any_done rfl ?_
   refine keepK hK11 [0, 1, 12, 13, 24] (by dsimp) (by dsimp) ?_
   refine T.cond rfl (fun hc => ?_) (fun hc => ?_) -- cond 3
   ·(try simp only [dE] at hc)
    rw [eqF_no hx hy (decide_eq_false hc)] at hQ
    refine T.seq fun K12 hK12 => ?_
    refine T.region ?_ -- region 7
    refine ro rfl rfl (OpOk.step (ok_moveb (c := false) (.inr rfl) rfl)) ?_
    refine ro_nil ?_
    refine keepK hK12 [4] (by dsimp) (by dsimp) ?_
    refine T.ret (hQ _ _ _ rfl ?_).1 -- ret 2
    exact TEnt.toH rfl ⟨rfl, trivial⟩
   ·(try simp only [dE] at hc)
    refine T.skip ?_
    refine keepK hK9 [0, 1, 12, 13] (by dsimp) (by dsimp) ?_
    refine T.region ?_ -- region 8
    refine ro rfl rfl (OpOk.step (ok_add64 rfl ti_int rfl rfl (by omega) (by omega))) ?_
    refine ro rfl rfl (OpOk.step (ok_move (.inl rfl))) ?_
    refine ro_nil ?_
    exact ⟨i + 1, ⟨by omega, upto_step hst hx hy (decide_eq_true (by omega))⟩, by omega, TEnt.toH rfl ⟨rfl, rfl, rfl, rfl, trivial⟩⟩
  ·(try simp only [dE] at hc)
   have hin : i = a.length := by omega
   subst hin
   rw [eqF_all hlen hst] at hQ
   refine T.exit ?_
   refine keepK hK5 [] (by dsimp) (by dsimp) ?_
   refine T.seq fun K13 hK13 => ?_
   refine T.region ?_ -- region 9
   refine ro rfl rfl (OpOk.step (ok_moveb (c := true) (.inr rfl) rfl)) ?_
   refine ro_nil ?_
   refine keepK hK13 [4] (by dsimp) (by dsimp) ?_
   refine T.ret (hQ _ _ _ rfl ?_).1 -- ret 3
   exact TEnt.toH rfl ⟨rfl, trivial⟩
theorem samep_ok (p q : Pr) : CSpec Try.prog 121 [] [.agg (PrC p), .agg (PrC q)] [] (.b (peB p q)) := by
 refine CSpec.body Try.func121 rfl rfl rfl rfl rfl fun Q hQ => ?_
 refine T.seq fun K1 hK1 => ?_
 refine T.region ?_ -- region 0
 refine ro rfl rfl (OpOk.step (ok_box (n := 2) rfl rfl (by decide))) ?_
 refine ro rfl rfl (OpOk.step (ok_box (n := 2) rfl rfl (by decide))) ?_
 refine ro rfl rfl (OpOk.step (ok_moveb (c := false) (.inr rfl) rfl)) ?_
 refine ro_nil ?_
 refine keepK hK1 [2, 3] (by dsimp) (by dsimp) ?_
 refine T.seq fun K2 hK2 => ?_
 refine T.region ?_ -- region 1
 refine ro rfl rfl (OpOk.step (ok_fieldAddr rfl ti_api_Par rfl rfl ti_int (by decide) rfl)) ?_
 refine ro rfl rfl (OpOk.step (ok_load rfl ti_int rfl rfl)) ?_
 refine ro rfl rfl (OpOk.step (ok_fieldAddr rfl ti_api_Par rfl rfl ti_int (by decide) rfl)) ?_
 refine ro rfl rfl (OpOk.step (ok_load rfl ti_int rfl rfl)) ?_
 refine ro rfl rfl (OpOk.step (ok_binOp rfl ti_int rfl)) ?_
 refine ro_case rfl rfl (OpOk.step (ok_moveb (.inl rfl) rfl)) (fun hb => ?_) (fun hb => ?_)
 ·(try simp only [dE] at hb)
  refine ro rfl rfl (OpOk.step (ok_fieldAddr rfl ti_api_Par rfl rfl ti_Luint8 (by decide) rfl)) ?_
  refine ro rfl rfl (OpOk.step (ok_load rfl ti_Luint8 rfl rfl)) ?_
  refine ro rfl rfl (OpOk.step (ok_fieldAddr rfl ti_api_Par rfl rfl ti_Luint8 (by decide) rfl)) ?_
  refine ro rfl rfl (OpOk.step (ok_load rfl ti_Luint8 rfl rfl)) ?_
  refine ro rfl rfl (ok_call rfl rfl rfl ((equal_ok p.b q.b).plain (by simp [renL, AV.ren, renL_ints]) rfl)) ?_
  refine ro rfl rfl (OpOk.step (ok_pick rfl rfl)) ?_
  refine ro rfl rfl (OpOk.step (ok_move (.inr rfl))) ?_
  refine ro_nil ?_
  refine keepK hK2 [4] (by dsimp) (by dsimp) ?_
  refine T.ret (hQ _ _ _ rfl ?_).1 -- ret 1
  exact TEnt.fin [] (by decide) (by simp) rfl ⟨by first | (rw [peB, decide_eq_true (by assumption)]; rfl) | (rw [peB, decide_eq_false (by assumption)]; rfl), trivial⟩
 ·(try simp only [dE] at hb)
  refine ro_skip rfl rfl ?_
  refine ro_skip rfl rfl ?_
  refine ro_skip rfl rfl ?_
  refine ro_skip rfl rfl ?_
  refine ro_skip rfl rfl ?_
  refine ro rfl rfl (OpOk.step (ok_pickb (t := false) (d := false) rfl rfl rfl)) ?_
  refine ro rfl rfl (OpOk.step (ok_moveb (c := false) (.inr rfl) rfl)) ?_
  refine ro_nil ?_
  refine keepK hK2 [4] (by dsimp) (by dsimp) ?_
  refine T.ret (hQ _ _ _ rfl ?_).1 -- ret 2
  exact TEnt.fin [] (by decide) (by simp) rfl ⟨by first | (rw [peB, decide_eq_true (by assumption)]; rfl) | (rw [peB, decide_eq_false (by assumption)]; rfl), trivial⟩
theorem eqfP_ok (l m : List Pr) (hl : l.length ≤ 140737488355328) : CSpec Try.prog 123 [] [.fz 2 (Prs l), .fz 2 (Prs m), .fn (.func 121) [] []] [] (.b (eqF peB l m)) := by
 refine CSpec.body Try.func123 rfl rfl rfl rfl rfl fun Q hQ => ?_
 refine T.seq fun K1 hK1 => ?_
 refine T.region ?_ -- region 0
 refine ro rfl rfl (OpOk.step (ok_moveb (c := false) (.inr rfl) rfl)) ?_
 refine ro_nil ?_
 refine keepK hK1 [0, 1, 2] (by dsimp) (by dsimp) ?_
 refine T.seq fun K2 hK2 => ?_
 refine T.seq fun K3 hK3 => ?_
 refine T.region ?_ -- region 1
 refine ro rfl rfl (OpOk.step (ok_move (.inl rfl))) ?_
 refine ro rfl rfl (OpOk.step (ok_len' rfl rfl ti_Lapi_Par rfl (by first | exact ints_length _ _ | exact rowsA_length _ _ | exact Cms_len _ | exact mapLen _ | rfl))) ?_
 refine ro rfl rfl (OpOk.step (ok_move (.inl rfl))) ?_
 refine ro rfl rfl (OpOk.step (ok_len' rfl rfl ti_Lapi_Par rfl (by first | exact ints_length _ _ | exact rowsA_length _ _ | exact Cms_len _ | exact mapLen _ | rfl))) ?_
 refine ro rfl rfl (OpOk.step (ok_binOp rfl ti_int rfl)) ?_
 refine ro_nil ?_
 refine keepK hK3 [0, 1, 2, 14] (by dsimp) (by dsimp) ?_
 refine T.cond rfl (fun hc => ?_) (fun hc => ?_) -- cond 1
 ·(try simp only [dE] at hc)
  rw [eqF_len (by (try simp only [Prs_len] at hc); omega)] at hQ
  refine T.seq fun K4 hK4 => ?_
  refine T.region ?_ -- region 2
  refine ro rfl rfl (OpOk.step (ok_moveb (c := false) (.inr rfl) rfl)) ?_
  refine ro_nil ?_
  refine keepK hK4 [6] (by dsimp) (by dsimp) ?_
  refine T.ret (hQ _ _ _ rfl ?_).1 -- ret 1
  exact TEnt.fin [] (by decide) (by simp) rfl ⟨rfl, trivial⟩
 ·(try simp only [dE] at hc)
  have hlen : l.length = m.length := by (try simp only [Prs_len] at hc); omega
  refine T.skip ?_
  refine keepK hK2 [0, 1, 2] (by dsimp) (by dsimp) ?_
  refine T.seq fun K5 hK5 => ?_
  refine T.seq fun K6 hK6 => ?_
  refine T.region ?_ -- region 3
  refine ro rfl rfl (OpOk.step (ok_move (.inl rfl))) ?_
  refine ro rfl rfl (OpOk.step (ok_len' rfl rfl ti_Lapi_Par rfl (by first | exact ints_length _ _ | exact rowsA_length _ _ | exact Cms_len _ | exact mapLen _ | rfl))) ?_
  refine ro rfl rfl (OpOk.step (ok_move (.inl rfl))) ?_
  refine ro_nil ?_
  refine keepK hK6 [1, 2, 15, 16, 17] (by dsimp) (by dsimp) ?_
  refine T.block ?_
  refine T.loopI (ι := Nat) (fun i => i ≤ l.length ∧ ∀ (k : Nat), k < i → ∀ u v, l[k]? = some u → m[k]? = some v → peB u v = true) (fun i => l.length - i) (fun i => ([(1, .fz 2 (Prs m)), (2, .fn (.func 121) [] []), (15, .fz 2 (Prs l)), (16, .int l.length), (17, .int i)], [])) 0 ⟨Nat.zero_le _, fun k hk => absurd hk (Nat.not_lt_zero _)⟩ (TEnt.toH rfl ⟨rfl, rfl, rfl, by rw [Prs_len]; rfl, rfl, trivial⟩) (fun i hi => ?_) -- loop 1
  obtain ⟨hil, hst⟩ := hi
  refine T.seq fun K7 hK7 => ?_
  refine T.region ?_ -- region 4
  refine ro rfl rfl (OpOk.step (ok_binOp rfl ti_int rfl)) ?_
  refine ro_nil ?_
  refine keepK hK7 [1, 2, 15, 16, 17, 18] (by dsimp) (by dsimp) ?_
  refine T.seq fun K8 hK8 => ?_
  refine T.cond rfl (fun hc => ?_) (fun hc => ?_) -- cond 2
  ·(try simp only [dE] at hc)
   obtain ⟨p, hp⟩ : ∃ x, l[i]? = some x := ⟨_, List.getElem?_eq_getElem (by omega)⟩
   obtain ⟨q, hq⟩ : ∃ y, m[i]? = some y := ⟨_, List.getElem?_eq_getElem (by omega)⟩
   refine T.skip ?_
   refine keepK hK8 [1, 2, 15, 16, 17] (by dsimp) (by dsimp) ?_
   refine T.seq fun K9 hK9 => ?_
   refine T.block ?_
   refine T.seq fun K10 hK10 => ?_
   refine T.region ?_ -- region 5
   refine ro rfl rfl (OpOk.step (ok_move (.inl rfl))) ?_
   refine ro rfl rfl (OpOk.step (by exact ok_index_map (F := PrC) rfl ti_Lapi_Par rfl ti_api_Par rfl rfl rfl hp (by simp [PrC]))) ?_
   refine ro rfl rfl (OpOk.step (ok_load rfl ti_api_Par rfl rfl)) ?_
   refine ro rfl rfl (OpOk.step (ok_alloc rfl ti_api_Par rfl (by decide))) ?_
   refine ro rfl rfl (OpOk.step (ok_move (.inr rfl))) ?_
   refine ro rfl rfl (OpOk.step (ok_store rfl ti_api_Par (by decide) rfl rfl rfl rfl rfl (by first | exact Nat.le_of_ble_eq_true rfl | simp) (by first | exact .inl ⟨rfl, rfl⟩ | exact .inr rfl))) ?_
   refine ro_nil ?_
   refine keepK hK10 [1, 2, 7, 8, 15, 16, 17] (by dsimp) (by dsimp) ?_
   refine T.seq fun K11 hK11 => ?_
   refine T.region ?_ -- region 6
   refine ro rfl rfl (OpOk.step (ok_move (.inl rfl))) ?_
   refine ro rfl rfl (OpOk.step (ok_move (.inl rfl))) ?_
   refine ro rfl rfl (OpOk.step (by exact ok_index_map (F := PrC) rfl ti_Lapi_Par rfl ti_api_Par rfl rfl rfl hq (by simp [PrC]))) ?_
   refine ro rfl rfl (OpOk.step (ok_load rfl ti_api_Par rfl rfl)) ?_
   refine ro rfl rfl (OpOk.step (ok_alloc rfl ti_api_Par rfl (by decide))) ?_
   refine ro rfl rfl (OpOk.step (ok_store rfl ti_api_Par (by decide) rfl rfl rfl rfl rfl (by first | exact Nat.le_of_ble_eq_true rfl | simp) (by first | exact .inl ⟨rfl, rfl⟩ | exact .inr rfl))) ?_
   refine ro_nil ?_
   refine keepK hK11 [1, 2, 8, 9, 15, 16, 17] (by dsimp) (by dsimp) ?_
   refine T.seq fun K12 hK12 => ?_
   refine T.region ?_ -- region 7
   refine ro rfl rfl (OpOk.step (ok_move (.inl rfl))) ?_
   refine ro rfl rfl (OpOk.step (ok_load rfl ti_api_Par rfl rfl)) ?_
   refine ro rfl rfl (OpOk.step (ok_load rfl ti_api_Par rfl rfl)) ?_
   refine ro rfl rfl (ok_call rfl rfl rfl ((samep_ok p q).plain (by simp [renL, AV.ren, PrC_take, PrC_ren]) rfl)) ?_
   refine ro rfl rfl (OpOk.step (ok_unOp rfl rfl)) ?_
   refine ro_nil ?_
   refine keepK hK12 [1, 2, 15, 16, 17, 30] (by dsimp) (by dsimp) ?_
   refine T.cond rfl (fun hc => ?_) (fun hc => ?_) -- cond 3
   ·(try simp only [dE] at hc)
    rw [eqF_no hp hq hc] at hQ
    refine T.seq fun K13 hK13 => ?_
    refine T.region ?_ -- region 8
    refine ro rfl rfl (OpOk.step (ok_moveb (c := false) (.inr rfl) rfl)) ?_
    refine ro_nil ?_
    refine keepK hK13 [6] (by dsimp) (by dsimp) ?_
    refine T.ret (hQ _ _ _ rfl ?_).1 -- ret 2
    exact TEnt.fin [] (by decide) (by simp) rfl ⟨rfl, trivial⟩
   ·(try simp only [dE] at hc)
    refine T.skip ?_
    refine keepK hK9 [1, 2, 15, 16, 17] (by dsimp) (by dsimp) ?_
    refine T.region ?_ -- region 9
    refine ro rfl rfl (OpOk.step (ok_add64 rfl ti_int rfl rfl (by omega) (by omega))) ?_
    refine ro rfl rfl (OpOk.step (ok_move (.inl rfl))) ?_
    refine ro_nil ?_
    exact ⟨i + 1, ⟨by omega, upto_step hst hp hq hc⟩, by omega, TEnt.fin [] (by decide) (by simp) rfl ⟨by simp [AV.ren, Prs_ren], rfl, by simp [AV.ren, Prs_ren], rfl, rfl, trivial⟩⟩
  ·(try simp only [dE] at hc)
   have hin : i = l.length := by omega
   subst hin
   rw [eqF_all hlen hst] at hQ
   refine T.exit ?_
   refine keepK hK5 [] (by dsimp) (by dsimp) ?_
   refine T.seq fun K14 hK14 => ?_
   refine T.region ?_ -- region 10
   refine ro rfl rfl (OpOk.step (ok_moveb (c := true) (.inr rfl) rfl)) ?_
   refine ro_nil ?_
   refine keepK hK14 [6] (by dsimp) (by dsimp) ?_
   refine T.ret (hQ _ _ _ rfl ?_).1 -- ret 3
   exact TEnt.fin [] (by decide) (by simp) rfl ⟨rfl, trivial⟩
theorem samez_ok (y z : Zn) (hl : y.pars.length ≤ 140737488355328) : CSpec Try.prog 90 [] [.agg (ZnC y), .agg (ZnC z)] [] (.b (zeB y z)) := by
 refine CSpec.body Try.func90 rfl rfl rfl rfl rfl fun Q hQ => ?_
 refine T.seq fun K1 hK1 => ?_
 refine T.region ?_ -- region 0
 refine ro rfl rfl (OpOk.step (ok_box (n := 6) rfl rfl (by decide))) ?_
 refine ro rfl rfl (OpOk.step (ok_box (n := 6) rfl rfl (by decide))) ?_
 refine ro rfl rfl (OpOk.step (ok_moveb (c := false) (.inr rfl) rfl)) ?_
 refine ro_nil ?_
 refine keepK hK1 [2, 3] (by dsimp) (by dsimp) ?_
 refine T.seq fun K2 hK2 => ?_
 refine T.region ?_ -- region 1
 refine ro rfl rfl (OpOk.step (ok_move (.inr rfl))) ?_
 refine ro_nil ?_
 refine keepK hK2 [2, 3, 5] (by dsimp) (by dsimp) ?_
 refine T.seq fun K3 hK3 => ?_
 refine T.region ?_ -- region 2
 refine ro rfl rfl (OpOk.step (ok_fieldAddr rfl ti_api_Zone rfl rfl ti_int (by decide) rfl)) ?_
 refine ro rfl rfl (OpOk.step (ok_load rfl ti_int rfl rfl)) ?_
 refine ro rfl rfl (OpOk.step (ok_fieldAddr rfl ti_api_Zone rfl rfl ti_int (by decide) rfl)) ?_
 refine ro rfl rfl (OpOk.step (ok_load rfl ti_int rfl rfl)) ?_
 refine ro rfl rfl (OpOk.step (ok_binOp rfl ti_int rfl)) ?_
 refine ro_case rfl rfl (OpOk.step (ok_moveb (.inl rfl) rfl)) (fun hb => ?_) (fun hb => ?_)
 ·(try simp only [dE] at hb)
  refine ro rfl rfl (OpOk.step (ok_fieldAddr rfl ti_api_Zone rfl rfl ti_int (by decide) rfl)) ?_
  refine ro rfl rfl (OpOk.step (ok_load rfl ti_int rfl rfl)) ?_
  refine ro rfl rfl (OpOk.step (ok_fieldAddr rfl ti_api_Zone rfl rfl ti_int (by decide) rfl)) ?_
  refine ro rfl rfl (OpOk.step (ok_load rfl ti_int rfl rfl)) ?_
  refine ro rfl rfl (OpOk.step (ok_binOp rfl ti_int rfl)) ?_
  refine ro rfl rfl (OpOk.step (ok_pick rfl rfl)) ?_
  refine ro_case rfl rfl (OpOk.step (ok_moveb (.inl rfl) rfl)) (fun hb => ?_) (fun hb => ?_)
  ·(try simp only [dE] at hb)
   refine ro rfl rfl (OpOk.step (ok_fieldAddr rfl ti_api_Zone rfl rfl ti_bool (by decide) rfl)) ?_
   refine ro rfl rfl (OpOk.step (ok_load rfl ti_bool rfl rfl)) ?_
   refine ro rfl rfl (OpOk.step (ok_fieldAddr rfl ti_api_Zone rfl rfl ti_bool (by decide) rfl)) ?_
   refine ro rfl rfl (OpOk.step (ok_load rfl ti_bool rfl rfl)) ?_
   refine ro rfl rfl (OpOk.step (ok_binOp rfl ti_bool rfl)) ?_
   refine ro rfl rfl (OpOk.step (ok_pick rfl rfl)) ?_
   refine ro_case rfl rfl (OpOk.step (ok_moveb (.inl rfl) rfl)) (fun hb => ?_) (fun hb => ?_)
   ·(try simp only [dE] at hb)
    refine ro rfl rfl (OpOk.step (ok_fieldAddr rfl ti_api_Zone rfl rfl ti_int (by decide) rfl)) ?_
    refine ro rfl rfl (OpOk.step (ok_load rfl ti_int rfl rfl)) ?_
    refine ro rfl rfl (OpOk.step (ok_fieldAddr rfl ti_api_Zone rfl rfl ti_int (by decide) rfl)) ?_
    refine ro rfl rfl (OpOk.step (ok_load rfl ti_int rfl rfl)) ?_
    refine ro rfl rfl (OpOk.step (ok_binOp rfl ti_int rfl)) ?_
    refine ro rfl rfl (OpOk.step (ok_pick rfl rfl)) ?_
    refine ro_case rfl rfl (OpOk.step (ok_moveb (.inl rfl) rfl)) (fun hb => ?_) (fun hb => ?_)
    ·(try simp only [dE] at hb)
     refine ro rfl rfl (OpOk.step (ok_fieldAddr rfl ti_api_Zone rfl rfl ti_bool (by decide) rfl)) ?_
     refine ro rfl rfl (OpOk.step (ok_load rfl ti_bool rfl rfl)) ?_
     refine ro rfl rfl (OpOk.step (ok_fieldAddr rfl ti_api_Zone rfl rfl ti_bool (by decide) rfl)) ?_
     refine ro rfl rfl (OpOk.step (ok_load rfl ti_bool rfl rfl)) ?_
     refine ro rfl rfl (OpOk.step (ok_binOp rfl ti_bool rfl)) ?_
     refine ro rfl rfl (OpOk.step (ok_pick rfl rfl)) ?_
     refine ro_case rfl rfl (OpOk.step (ok_moveb (.inl rfl) rfl)) (fun hb => ?_) (fun hb => ?_)
     ·(try simp only [dE] at hb)
      refine ro rfl rfl (OpOk.step (ok_fieldAddr rfl ti_api_Zone rfl rfl ti_Lapi_Par (by decide) rfl)) ?_
      refine ro rfl rfl (OpOk.step (ok_load rfl ti_Lapi_Par rfl rfl)) ?_
      refine ro rfl rfl (OpOk.step (ok_fieldAddr rfl ti_api_Zone rfl rfl ti_Lapi_Par (by decide) rfl)) ?_
      refine ro rfl rfl (OpOk.step (ok_load rfl ti_Lapi_Par rfl rfl)) ?_
      refine ro rfl rfl (OpOk.step (ok_move (.inl rfl))) ?_
      refine ro rfl rfl (ok_call rfl rfl rfl ((eqfP_ok y.pars z.pars hl).plain (by simp [renL, AV.ren, Prs_ren]) rfl)) ?_
      refine ro rfl rfl (OpOk.step (ok_pick rfl rfl)) ?_
      refine ro rfl rfl (OpOk.step (ok_move (.inr rfl))) ?_
      refine ro_nil ?_
      refine keepK hK3 [4] (by dsimp) (by dsimp) ?_
      refine T.ret (hQ _ _ _ rfl ?_).1 -- ret 1
      exact TEnt.fin [] (by decide) (by simp) rfl ⟨by show AV.b _ = AV.b _; exact congrArg AV.b (by simp_all [zeB]), trivial⟩
     ·(try simp only [dE] at hb)
      refine ro_skip rfl rfl ?_
      refine ro_skip rfl rfl ?_
      refine ro_skip rfl rfl ?_
      refine ro_skip rfl rfl ?_
      refine ro_skip rfl rfl ?_
      refine ro_skip rfl rfl ?_
      refine ro rfl rfl (OpOk.step (ok_pickb (t := false) (d := false) rfl rfl rfl)) ?_
      refine ro rfl rfl (OpOk.step (ok_moveb (c := false) (.inr rfl) rfl)) ?_
      refine ro_nil ?_
      refine keepK hK3 [4] (by dsimp) (by dsimp) ?_
      refine T.ret (hQ _ _ _ rfl ?_).1 -- ret 2
      exact TEnt.fin [] (by decide) (by simp) rfl ⟨by show AV.b _ = AV.b _; exact congrArg AV.b (by simp_all [zeB]), trivial⟩
    ·(try simp only [dE] at hb)
     refine ro_skip rfl rfl ?_
     refine ro_skip rfl rfl ?_
     refine ro_skip rfl rfl ?_
     refine ro_skip rfl rfl ?_
     refine ro_skip rfl rfl ?_
     refine ro rfl rfl (OpOk.step (ok_pickb (t := false) (d := false) rfl rfl rfl)) ?_
     refine ro rfl rfl (OpOk.step (ok_moveb (c := false) (.inl rfl) rfl)) ?_
     refine ro_skip rfl rfl ?_
     refine ro_skip rfl rfl ?_
     refine ro_skip rfl rfl ?_
     refine ro_skip rfl rfl ?_
     refine ro_skip rfl rfl ?_
     refine ro_skip rfl rfl ?_
     refine ro rfl rfl (OpOk.step (ok_pickb (t := false) (d := false) rfl rfl rfl)) ?_
     refine ro rfl rfl (OpOk.step (ok_moveb (c := false) (.inr rfl) rfl)) ?_
     refine ro_nil ?_
     refine keepK hK3 [4] (by dsimp) (by dsimp) ?_
     refine T.ret (hQ _ _ _ rfl ?_).1 -- ret 3
     exact TEnt.fin [] (by decide) (by simp) rfl ⟨by show AV.b _ = AV.b _; exact congrArg AV.b (by simp_all [zeB]), trivial⟩
   ·(try simp only [dE] at hb)
    refine ro_skip rfl rfl ?_
    refine ro_skip rfl rfl ?_
    refine ro_skip rfl rfl ?_
    refine ro_skip rfl rfl ?_
    refine ro_skip rfl rfl ?_
    refine ro rfl rfl (OpOk.step (ok_pickb (t := false) (d := false) rfl rfl rfl)) ?_
    refine ro rfl rfl (OpOk.step (ok_moveb (c := false) (.inl rfl) rfl)) ?_
    refine ro_skip rfl rfl ?_
    refine ro_skip rfl rfl ?_
    refine ro_skip rfl rfl ?_
    refine ro_skip rfl rfl ?_
    refine ro_skip rfl rfl ?_
    refine ro rfl rfl (OpOk.step (ok_pickb (t := false) (d := false) rfl rfl rfl)) ?_
    refine ro rfl rfl (OpOk.step (ok_moveb (c := false) (.inl rfl) rfl)) ?_
    refine ro_skip rfl rfl ?_
    refine ro_skip rfl rfl ?_
    refine ro_skip rfl rfl ?_
    refine ro_skip rfl rfl ?_
    refine ro_skip rfl rfl ?_
    refine ro_skip rfl rfl ?_
    refine ro rfl rfl (OpOk.step (ok_pickb (t := false) (d := false) rfl rfl rfl)) ?_
    refine ro rfl rfl (OpOk.step (ok_moveb (c := false) (.inr rfl) rfl)) ?_
    refine ro_nil ?_
    refine keepK hK3 [4] (by dsimp) (by dsimp) ?_
    refine T.ret (hQ _ _ _ rfl ?_).1 -- ret 4
    exact TEnt.fin [] (by decide) (by simp) rfl ⟨by show AV.b _ = AV.b _; exact congrArg AV.b (by simp_all [zeB]), trivial⟩
  ·(try simp only [dE] at hb)
   refine ro_skip rfl rfl ?_
   refine ro_skip rfl rfl ?_
   refine ro_skip rfl rfl ?_
   refine ro_skip rfl rfl ?_
   refine ro_skip rfl rfl ?_
   refine ro rfl rfl (OpOk.step (ok_pickb (t := false) (d := false) rfl rfl rfl)) ?_
   refine ro rfl rfl (OpOk.step (ok_moveb (c := false) (.inl rfl) rfl)) ?_
   refine ro_skip rfl rfl ?_
   refine ro_skip rfl rfl ?_
   refine ro_skip rfl rfl ?_
   refine ro_skip rfl rfl ?_
   refine ro_skip rfl rfl ?_
   refine ro rfl rfl (OpOk.step (ok_pickb (t := false) (d := false) rfl rfl rfl)) ?_
   refine ro rfl rfl (OpOk.step (ok_moveb (c := false) (.inl rfl) rfl)) ?_
   refine ro_skip rfl rfl ?_
   refine ro_skip rfl rfl ?_
   refine ro_skip rfl rfl ?_
   refine ro_skip rfl rfl ?_
   refine ro_skip rfl rfl ?_
   refine ro rfl rfl (OpOk.step (ok_pickb (t := false) (d := false) rfl rfl rfl)) ?_
   refine ro rfl rfl (OpOk.step (ok_moveb (c := false) (.inl rfl) rfl)) ?_
   refine ro_skip rfl rfl ?_
   refine ro_skip rfl rfl ?_
   refine ro_skip rfl rfl ?_
   refine ro_skip rfl rfl ?_
   refine ro_skip rfl rfl ?_
   refine ro_skip rfl rfl ?_
   refine ro rfl rfl (OpOk.step (ok_pickb (t := false) (d := false) rfl rfl rfl)) ?_
   refine ro rfl rfl (OpOk.step (ok_moveb (c := false) (.inr rfl) rfl)) ?_
   refine ro_nil ?_
   refine keepK hK3 [4] (by dsimp) (by dsimp) ?_
   refine T.ret (hQ _ _ _ rfl ?_).1 -- ret 5
   exact TEnt.fin [] (by decide) (by simp) rfl ⟨by show AV.b _ = AV.b _; exact congrArg AV.b (by simp_all [zeB]), trivial⟩
 ·(try simp only [dE] at hb)
  refine ro_skip rfl rfl ?_
  refine ro_skip rfl rfl ?_
  refine ro_skip rfl rfl ?_
  refine ro_skip rfl rfl ?_
  refine ro_skip rfl rfl ?_
  refine ro rfl rfl (OpOk.step (ok_pickb (t := false) (d := false) rfl rfl rfl)) ?_
  refine ro rfl rfl (OpOk.step (ok_moveb (c := false) (.inl rfl) rfl)) ?_
  refine ro_skip rfl rfl ?_
  refine ro_skip rfl rfl ?_
  refine ro_skip rfl rfl ?_
  refine ro_skip rfl rfl ?_
  refine ro_skip rfl rfl ?_
  refine ro rfl rfl (OpOk.step (ok_pickb (t := false) (d := false) rfl rfl rfl)) ?_
  refine ro rfl rfl (OpOk.step (ok_moveb (c := false) (.inl rfl) rfl)) ?_
  refine ro_skip rfl rfl ?_
  refine ro_skip rfl rfl ?_
  refine ro_skip rfl rfl ?_
  refine ro_skip rfl rfl ?_
  refine ro_skip rfl rfl ?_
  refine ro rfl rfl (OpOk.step (ok_pickb (t := false) (d := false) rfl rfl rfl)) ?_
  refine ro rfl rfl (OpOk.step (ok_moveb (c := false) (.inl rfl) rfl)) ?_
  refine ro_skip rfl rfl ?_
  refine ro_skip rfl rfl ?_
  refine ro_skip rfl rfl ?_
  refine ro_skip rfl rfl ?_
  refine ro_skip rfl rfl ?_
  refine ro rfl rfl (OpOk.step (ok_pickb (t := false) (d := false) rfl rfl rfl)) ?_
  refine ro rfl rfl (OpOk.step (ok_moveb (c := false) (.inl rfl) rfl)) ?_
  refine ro_skip rfl rfl ?_
  refine ro_skip rfl rfl ?_
  refine ro_skip rfl rfl ?_
  refine ro_skip rfl rfl ?_
  refine ro_skip rfl rfl ?_
  refine ro_skip rfl rfl ?_
  refine ro rfl rfl (OpOk.step (ok_pickb (t := false) (d := false) rfl rfl rfl)) ?_
  refine ro rfl rfl (OpOk.step (ok_moveb (c := false) (.inr rfl) rfl)) ?_
  refine ro_nil ?_
  refine keepK hK3 [4] (by dsimp) (by dsimp) ?_
  refine T.ret (hQ _ _ _ rfl ?_).1 -- ret 6
  exact TEnt.fin [] (by decide) (by simp) rfl ⟨by show AV.b _ = AV.b _; exact congrArg AV.b (by simp_all [zeB]), trivial⟩
theorem eqfZ_ok (l m : List Zn) (hl : l.length ≤ 140737488355328) (hp : ∀ z ∈ l, z.pars.length ≤ 140737488355328) : CSpec Try.prog 89 [] [.fz 6 (Zns l), .fz 6 (Zns m), .fn (.func 90) [] []] [] (.b (eqF zeB l m)) := by
 refine CSpec.body Try.func89 rfl rfl rfl rfl rfl fun Q hQ => ?_
 refine T.seq fun K1 hK1 => ?_
 refine T.region ?_ -- region 0
 refine ro rfl rfl (OpOk.step (ok_moveb (c := false) (.inr rfl) rfl)) ?_
 refine ro_nil ?_
 refine keepK hK1 [0, 1, 2] (by dsimp) (by dsimp) ?_
 refine T.seq fun K2 hK2 => ?_
 refine T.seq fun K3 hK3 => ?_
 refine T.region ?_ -- region 1
 refine ro rfl rfl (OpOk.step (ok_move (.inl rfl))) ?_
 refine ro rfl rfl (OpOk.step (ok_len' rfl rfl ti_Lapi_Zone rfl (by first | exact ints_length _ _ | exact rowsA_length _ _ | exact Cms_len _ | exact mapLen _ | rfl))) ?_
 refine ro rfl rfl (OpOk.step (ok_move (.inl rfl))) ?_
 refine ro rfl rfl (OpOk.step (ok_len' rfl rfl ti_Lapi_Zone rfl (by first | exact ints_length _ _ | exact rowsA_length _ _ | exact Cms_len _ | exact mapLen _ | rfl))) ?_
 refine ro rfl rfl (OpOk.step (ok_binOp rfl ti_int rfl)) ?_
 refine ro_nil ?_
 refine keepK hK3 [0, 1, 2, 14] (by dsimp) (by dsimp) ?_
 refine T.cond rfl (fun hc => ?_) (fun hc => ?_) -- cond 1
 ·(try simp only [dE] at hc)
  rw [eqF_len (by (try simp only [Zns_len] at hc); omega)] at hQ
  refine T.seq fun K4 hK4 => ?_
  refine T.region ?_ -- region 2
  refine ro rfl rfl (OpOk.step (ok_moveb (c := false) (.inr rfl) rfl)) ?_
  refine ro_nil ?_
  refine keepK hK4 [6] (by dsimp) (by dsimp) ?_
  refine T.ret (hQ _ _ _ rfl ?_).1 -- ret 1
  exact TEnt.fin [] (by decide) (by simp) rfl ⟨rfl, trivial⟩
 ·(try simp only [dE] at hc)
  have hlen : l.length = m.length := by (try simp only [Zns_len] at hc); omega
  refine T.skip ?_
  refine keepK hK2 [0, 1, 2] (by dsimp) (by dsimp) ?_
  refine T.seq fun K5 hK5 => ?_
  refine T.seq fun K6 hK6 => ?_
  refine T.region ?_ -- region 3
  refine ro rfl rfl (OpOk.step (ok_move (.inl rfl))) ?_
  refine ro rfl rfl (OpOk.step (ok_len' rfl rfl ti_Lapi_Zone rfl (by first | exact ints_length _ _ | exact rowsA_length _ _ | exact Cms_len _ | exact mapLen _ | rfl))) ?_
  refine ro rfl rfl (OpOk.step (ok_move (.inl rfl))) ?_
  refine ro_nil ?_
  refine keepK hK6 [1, 2, 15, 16, 17] (by dsimp) (by dsimp) ?_
  refine T.block ?_
  refine T.loopI (ι := Nat) (fun i => i ≤ l.length ∧ ∀ (k : Nat), k < i → ∀ u v, l[k]? = some u → m[k]? = some v → zeB u v = true) (fun i => l.length - i) (fun i => ([(1, .fz 6 (Zns m)), (2, .fn (.func 90) [] []), (15, .fz 6 (Zns l)), (16, .int l.length), (17, .int i)], [])) 0 ⟨Nat.zero_le _, fun k hk => absurd hk (Nat.not_lt_zero _)⟩ (TEnt.toH rfl ⟨rfl, rfl, rfl, by rw [Zns_len]; rfl, rfl, trivial⟩) (fun i hi => ?_) -- loop 1
  obtain ⟨hil, hst⟩ := hi
  refine T.seq fun K7 hK7 => ?_
  refine T.region ?_ -- region 4
  refine ro rfl rfl (OpOk.step (ok_binOp rfl ti_int rfl)) ?_
  refine ro_nil ?_
  refine keepK hK7 [1, 2, 15, 16, 17, 18] (by dsimp) (by dsimp) ?_
  refine T.seq fun K8 hK8 => ?_
  refine T.cond rfl (fun hc => ?_) (fun hc => ?_) -- cond 2
  ·(try simp only [dE] at hc)
   obtain ⟨p, hpx⟩ : ∃ x, l[i]? = some x := ⟨_, List.getElem?_eq_getElem (by omega)⟩
   obtain ⟨q, hq⟩ : ∃ y, m[i]? = some y := ⟨_, List.getElem?_eq_getElem (by omega)⟩
   refine T.skip ?_
   refine keepK hK8 [1, 2, 15, 16, 17] (by dsimp) (by dsimp) ?_
   refine T.seq fun K9 hK9 => ?_
   refine T.block ?_
   refine T.seq fun K10 hK10 => ?_
   refine T.region ?_ -- region 5
   refine ro rfl rfl (OpOk.step (ok_move (.inl rfl))) ?_
   refine ro rfl rfl (OpOk.step (by exact ok_index_map (F := ZnC) rfl ti_Lapi_Zone rfl ti_api_Zone rfl rfl rfl hpx (by simp [ZnC]))) ?_
   refine ro rfl rfl (OpOk.step (ok_load rfl ti_api_Zone rfl rfl)) ?_
   refine ro rfl rfl (OpOk.step (ok_alloc rfl ti_api_Zone rfl (by decide))) ?_
   refine ro rfl rfl (OpOk.step (ok_move (.inr rfl))) ?_
   refine ro rfl rfl (OpOk.step (ok_store rfl ti_api_Zone (by decide) rfl rfl rfl rfl rfl (by first | exact Nat.le_of_ble_eq_true rfl | simp) (by first | exact .inl ⟨rfl, rfl⟩ | exact .inr rfl))) ?_
   refine ro_nil ?_
   refine keepK hK10 [1, 2, 7, 8, 15, 16, 17] (by dsimp) (by dsimp) ?_
   refine T.seq fun K11 hK11 => ?_
   refine T.region ?_ -- region 6
   refine ro rfl rfl (OpOk.step (ok_move (.inl rfl))) ?_
   refine ro rfl rfl (OpOk.step (ok_move (.inl rfl))) ?_
   refine ro rfl rfl (OpOk.step (by exact ok_index_map (F := ZnC) rfl ti_Lapi_Zone rfl ti_api_Zone rfl rfl rfl hq (by simp [ZnC]))) ?_
   refine ro rfl rfl (OpOk.step (ok_load rfl ti_api_Zone rfl rfl)) ?_
   refine ro rfl rfl (OpOk.step (ok_alloc rfl ti_api_Zone rfl (by decide))) ?_
   refine ro rfl rfl (OpOk.step (ok_store rfl ti_api_Zone (by decide) rfl rfl rfl rfl rfl (by first | exact Nat.le_of_ble_eq_true rfl | simp) (by first | exact .inl ⟨rfl, rfl⟩ | exact .inr rfl))) ?_
   refine ro_nil ?_
   refine keepK hK11 [1, 2, 8, 9, 15, 16, 17] (by dsimp) (by dsimp) ?_
   refine T.seq fun K12 hK12 => ?_
   refine T.region ?_ -- region 7
   refine ro rfl rfl (OpOk.step (ok_move (.inl rfl))) ?_
   refine ro rfl rfl (OpOk.step (ok_load rfl ti_api_Zone rfl rfl)) ?_
   refine ro rfl rfl (OpOk.step (ok_load rfl ti_api_Zone rfl rfl)) ?_
   refine ro rfl rfl (ok_call rfl rfl rfl ((samez_ok p q (hp p (List.mem_of_getElem? hpx))).plain (by simp [renL, AV.ren, ZnC_take, ZnC_ren]) rfl)) ?_
   refine ro rfl rfl (OpOk.step (ok_unOp rfl rfl)) ?_
   refine ro_nil ?_
   refine keepK hK12 [1, 2, 15, 16, 17, 30] (by dsimp) (by dsimp) ?_
   refine T.cond rfl (fun hc => ?_) (fun hc => ?_) -- cond 3
   ·(try simp only [dE] at hc)
    rw [eqF_no hpx hq hc] at hQ
    refine T.seq fun K13 hK13 => ?_
    refine T.region ?_ -- region 8
    refine ro rfl rfl (OpOk.step (ok_moveb (c := false) (.inr rfl) rfl)) ?_
    refine ro_nil ?_
    refine keepK hK13 [6] (by dsimp) (by dsimp) ?_
    refine T.ret (hQ _ _ _ rfl ?_).1 -- ret 2
    exact TEnt.fin [] (by decide) (by simp) rfl ⟨rfl, trivial⟩
   ·(try simp only [dE] at hc)
    refine T.skip ?_
    refine keepK hK9 [1, 2, 15, 16, 17] (by dsimp) (by dsimp) ?_
    refine T.region ?_ -- region 9
    refine ro rfl rfl (OpOk.step (ok_add64 rfl ti_int rfl rfl (by omega) (by omega))) ?_
    refine ro rfl rfl (OpOk.step (ok_move (.inl rfl))) ?_
    refine ro_nil ?_
    exact ⟨i + 1, ⟨by omega, upto_step hst hpx hq hc⟩, by omega, TEnt.fin [] (by decide) (by simp) rfl ⟨by simp [AV.ren, Zns_ren], rfl, by simp [AV.ren, Zns_ren], rfl, rfl, trivial⟩⟩
  ·(try simp only [dE] at hc)
   have hin : i = l.length := by omega
   subst hin
   rw [eqF_all hlen hst] at hQ
   refine T.exit ?_
   refine keepK hK5 [] (by dsimp) (by dsimp) ?_
   refine T.seq fun K14 hK14 => ?_
   refine T.region ?_ -- region 10
   refine ro rfl rfl (OpOk.step (ok_moveb (c := true) (.inr rfl) rfl)) ?_
   refine ro_nil ?_
   refine keepK hK14 [6] (by dsimp) (by dsimp) ?_
   refine T.ret (hQ _ _ _ rfl ?_).1 -- ret 3
   exact TEnt.fin [] (by decide) (by simp) rfl ⟨rfl, trivial⟩
theorem ssame_ok (a b : St) (h1 : a.st.length ≤ 140737488355328) (h2 : a.zs.length ≤ 140737488355328) (hp : ∀ z ∈ a.zs, z.pars.length ≤ 140737488355328) : CSpec Try.prog 40 [] [.agg (StC a), .agg (StC b)] [] (.b (teB a b)) := by
 refine CSpec.body Try.func40 rfl rfl rfl rfl rfl fun Q hQ => ?_
 refine T.seq fun K1 hK1 => ?_
 refine T.region ?_ -- region 0
 refine ro rfl rfl (OpOk.step (ok_box (n := 15) rfl rfl (by decide))) ?_
 refine ro rfl rfl (OpOk.step (ok_box (n := 15) rfl rfl (by decide))) ?_
 refine ro rfl rfl (OpOk.step (ok_moveb (c := false) (.inr rfl) rfl)) ?_
 refine ro_nil ?_
 refine keepK hK1 [2, 3] (by dsimp) (by dsimp) ?_
 refine T.seq fun K2 hK2 => ?_
 refine T.region ?_ -- region 1
 refine ro rfl rfl (OpOk.step (ok_fieldAddr rfl ti_api_State rfl rfl ti_api_Conf (by decide) rfl)) ?_
 refine ro rfl rfl (OpOk.step (ok_load rfl ti_api_Conf rfl rfl)) ?_
 refine ro rfl rfl (OpOk.step (ok_fieldAddr rfl ti_api_State rfl rfl ti_api_Conf (by decide) rfl)) ?_
 refine ro rfl rfl (OpOk.step (ok_load rfl ti_api_Conf rfl rfl)) ?_
 refine ro rfl rfl (OpOk.step ((eq_conf (c := a.c) (d := b.c) rfl (.inl rfl) rfl rfl).eq (x' := .b (decide (a.c = b.c))) rfl rfl)) ?_
 refine ro_case rfl rfl (OpOk.step (ok_moveb (.inl rfl) rfl)) (fun hb => ?_) (fun hb => ?_)
 ·(try simp only [dE] at hb)
  refine ro rfl rfl (OpOk.step (ok_fieldAddr rfl ti_api_State rfl rfl ti_int (by decide) rfl)) ?_
  refine ro rfl rfl (OpOk.step (ok_load rfl ti_int rfl rfl)) ?_
  refine ro rfl rfl (OpOk.step (ok_fieldAddr rfl ti_api_State rfl rfl ti_int (by decide) rfl)) ?_
  refine ro rfl rfl (OpOk.step (ok_load rfl ti_int rfl rfl)) ?_
  refine ro rfl rfl (OpOk.step (ok_binOp rfl ti_int rfl)) ?_
  refine ro rfl rfl (OpOk.step (ok_pick rfl rfl)) ?_
  refine ro_case rfl rfl (OpOk.step (ok_moveb (.inl rfl) rfl)) (fun hb => ?_) (fun hb => ?_)
  ·(try simp only [dE] at hb)
   refine ro rfl rfl (OpOk.step (ok_fieldAddr rfl ti_api_State rfl rfl ti_int (by decide) rfl)) ?_
   refine ro rfl rfl (OpOk.step (ok_load rfl ti_int rfl rfl)) ?_
   refine ro rfl rfl (OpOk.step (ok_fieldAddr rfl ti_api_State rfl rfl ti_int (by decide) rfl)) ?_
   refine ro rfl rfl (OpOk.step (ok_load rfl ti_int rfl rfl)) ?_
   refine ro rfl rfl (OpOk.step (ok_binOp rfl ti_int rfl)) ?_
   refine ro rfl rfl (OpOk.step (ok_pick rfl rfl)) ?_
   refine ro_case rfl rfl (OpOk.step (ok_moveb (.inl rfl) rfl)) (fun hb => ?_) (fun hb => ?_)
   ·(try simp only [dE] at hb)
    refine ro rfl rfl (OpOk.step (ok_fieldAddr rfl ti_api_State rfl rfl ti_Lint (by decide) rfl)) ?_
    refine ro rfl rfl (OpOk.step (ok_load rfl ti_Lint rfl rfl)) ?_
    refine ro rfl rfl (OpOk.step (ok_fieldAddr rfl ti_api_State rfl rfl ti_Lint (by decide) rfl)) ?_
    refine ro rfl rfl (OpOk.step (ok_load rfl ti_Lint rfl rfl)) ?_
    refine ro rfl rfl (ok_call rfl rfl rfl ((sequal_ok a.st b.st h1).plain (by simp [renL, AV.ren, renL_ints]) rfl)) ?_
    refine ro rfl rfl (OpOk.step (ok_pick rfl rfl)) ?_
    refine ro_case rfl rfl (OpOk.step (ok_moveb (.inl rfl) rfl)) (fun hb => ?_) (fun hb => ?_)
    ·(try simp only [dE] at hb)
     refine ro rfl rfl (OpOk.step (ok_fieldAddr rfl ti_api_State rfl rfl ti_Lapi_Zone (by decide) rfl)) ?_
     refine ro rfl rfl (OpOk.step (ok_load rfl ti_Lapi_Zone rfl rfl)) ?_
     refine ro rfl rfl (OpOk.step (ok_fieldAddr rfl ti_api_State rfl rfl ti_Lapi_Zone (by decide) rfl)) ?_
     refine ro rfl rfl (OpOk.step (ok_load rfl ti_Lapi_Zone rfl rfl)) ?_
     refine ro rfl rfl (ok_call rfl rfl rfl ((eqfZ_ok a.zs b.zs h2 hp).plain (by simp [renL, AV.ren, Zns_ren]) rfl)) ?_
     refine ro rfl rfl (OpOk.step (ok_pick rfl rfl)) ?_
     refine ro rfl rfl (OpOk.step (ok_move (.inr rfl))) ?_
     refine ro_nil ?_
     refine keepK hK2 [4] (by dsimp) (by dsimp) ?_
     refine T.ret (hQ _ _ _ rfl ?_).1 -- ret 1
     exact TEnt.fin [] (by decide) (by simp) rfl ⟨by show AV.b _ = AV.b _; exact congrArg AV.b (by simp_all [teB]), trivial⟩
    ·(try simp only [dE] at hb)
     refine ro_skip rfl rfl ?_
     refine ro_skip rfl rfl ?_
     refine ro_skip rfl rfl ?_
     refine ro_skip rfl rfl ?_
     refine ro_skip rfl rfl ?_
     refine ro rfl rfl (OpOk.step (ok_pickb (t := false) (d := false) rfl rfl rfl)) ?_
     refine ro rfl rfl (OpOk.step (ok_moveb (c := false) (.inr rfl) rfl)) ?_
     refine ro_nil ?_
     refine keepK hK2 [4] (by dsimp) (by dsimp) ?_
     refine T.ret (hQ _ _ _ rfl ?_).1 -- ret 2
     exact TEnt.fin [] (by decide) (by simp) rfl ⟨by show AV.b _ = AV.b _; exact congrArg AV.b (by simp_all [teB]), trivial⟩
   ·(try simp only [dE] at hb)
    refine ro_skip rfl rfl ?_
    refine ro_skip rfl rfl ?_
    refine ro_skip rfl rfl ?_
    refine ro_skip rfl rfl ?_
    refine ro_skip rfl rfl ?_
    refine ro rfl rfl (OpOk.step (ok_pickb (t := false) (d := false) rfl rfl rfl)) ?_
    refine ro rfl rfl (OpOk.step (ok_moveb (c := false) (.inl rfl) rfl)) ?_
    refine ro_skip rfl rfl ?_
    refine ro_skip rfl rfl ?_
    refine ro_skip rfl rfl ?_
    refine ro_skip rfl rfl ?_
    refine ro_skip rfl rfl ?_
    refine ro rfl rfl (OpOk.step (ok_pickb (t := false) (d := false) rfl rfl rfl)) ?_
    refine ro rfl rfl (OpOk.step (ok_moveb (c := false) (.inr rfl) rfl)) ?_
    refine ro_nil ?_
    refine keepK hK2 [4] (by dsimp) (by dsimp) ?_
    refine T.ret (hQ _ _ _ rfl ?_).1 -- ret 3
    exact TEnt.fin [] (by decide) (by simp) rfl ⟨by show AV.b _ = AV.b _; exact congrArg AV.b (by simp_all [teB]), trivial⟩
  ·(try simp only [dE] at hb)
   refine ro_skip rfl rfl ?_
   refine ro_skip rfl rfl ?_
   refine ro_skip rfl rfl ?_
   refine ro_skip rfl rfl ?_
   refine ro_skip rfl rfl ?_
   refine ro rfl rfl (OpOk.step (ok_pickb (t := false) (d := false) rfl rfl rfl)) ?_
   refine ro rfl rfl (OpOk.step (ok_moveb (c := false) (.inl rfl) rfl)) ?_
   refine ro_skip rfl rfl ?_
   refine ro_skip rfl rfl ?_
   refine ro_skip rfl rfl ?_
   refine ro_skip rfl rfl ?_
   refine ro_skip rfl rfl ?_
   refine ro rfl rfl (OpOk.step (ok_pickb (t := false) (d := false) rfl rfl rfl)) ?_
   refine ro rfl rfl (OpOk.step (ok_moveb (c := false) (.inl rfl) rfl)) ?_
   refine ro_skip rfl rfl ?_
   refine ro_skip rfl rfl ?_
   refine ro_skip rfl rfl ?_
   refine ro_skip rfl rfl ?_
   refine ro_skip rfl rfl ?_
   refine ro rfl rfl (OpOk.step (ok_pickb (t := false) (d := false) rfl rfl rfl)) ?_
   refine ro rfl rfl (OpOk.step (ok_moveb (c := false) (.inr rfl) rfl)) ?_
   refine ro_nil ?_
   refine keepK hK2 [4] (by dsimp) (by dsimp) ?_
   refine T.ret (hQ _ _ _ rfl ?_).1 -- ret 4
   exact TEnt.fin [] (by decide) (by simp) rfl ⟨by show AV.b _ = AV.b _; exact congrArg AV.b (by simp_all [teB]), trivial⟩
 ·(try simp only [dE] at hb)
  refine ro_skip rfl rfl ?_
  refine ro_skip rfl rfl ?_
  refine ro_skip rfl rfl ?_
  refine ro_skip rfl rfl ?_
  refine ro_skip rfl rfl ?_
  refine ro rfl rfl (OpOk.step (ok_pickb (t := false) (d := false) rfl rfl rfl)) ?_
  refine ro rfl rfl (OpOk.step (ok_moveb (c := false) (.inl rfl) rfl)) ?_
  refine ro_skip rfl rfl ?_
  refine ro_skip rfl rfl ?_
  refine ro_skip rfl rfl ?_
  refine ro_skip rfl rfl ?_
  refine ro_skip rfl rfl ?_
  refine ro rfl rfl (OpOk.step (ok_pickb (t := false) (d := false) rfl rfl rfl)) ?_
  refine ro rfl rfl (OpOk.step (ok_moveb (c := false) (.inl rfl) rfl)) ?_
  refine ro_skip rfl rfl ?_
  refine ro_skip rfl rfl ?_
  refine ro_skip rfl rfl ?_
  refine ro_skip rfl rfl ?_
  refine ro_skip rfl rfl ?_
  refine ro rfl rfl (OpOk.step (ok_pickb (t := false) (d := false) rfl rfl rfl)) ?_
  refine ro rfl rfl (OpOk.step (ok_moveb (c := false) (.inl rfl) rfl)) ?_
  refine ro_skip rfl rfl ?_
  refine ro_skip rfl rfl ?_
  refine ro_skip rfl rfl ?_
  refine ro_skip rfl rfl ?_
  refine ro_skip rfl rfl ?_
  refine ro rfl rfl (OpOk.step (ok_pickb (t := false) (d := false) rfl rfl rfl)) ?_
  refine ro rfl rfl (OpOk.step (ok_moveb (c := false) (.inr rfl) rfl)) ?_
  refine ro_nil ?_
  refine keepK hK2 [4] (by dsimp) (by dsimp) ?_
  refine T.ret (hQ _ _ _ rfl ?_).1 -- ret 5
  exact TEnt.fin [] (by decide) (by simp) rfl ⟨by show AV.b _ = AV.b _; exact congrArg AV.b (by simp_all [teB]), trivial⟩
end Go.Proofs.Ytlegolcbjjjofaa.AmF
