/- Walks over the abstract machine: states of the log: the document's readers. -/
import Derived.Test.YtlegolcbjjjofaaAfState9a
namespace Go.Proofs.Ytlegolcbjjjofaa.AmF
open Go Go.AM
set_option maxRecDepth 100000
set_option maxHeartbeats 4000000
set_option linter.unusedSimpArgs false
set_option linter.unusedVariables false
attribute [local simp] tkeep tget tput ev cav argsTM pickA normT putA splice AV.cells ints_length rowsA_length Prs_len Zns_len
theorem rreb_ok (s : St) (hn : s.st.length ≤ 1000000000) : CSpec Try.prog 109 [] [.agg (StC s)] [] (.b (decide (2 ∈ s.st))) := by
 refine CSpec.body Try.func109 rfl rfl rfl rfl rfl fun Q hQ => ?_
 refine T.seq fun K1 hK1 => ?_
 refine T.region ?_ -- region 0
 refine ro rfl rfl (OpOk.step (ok_box (n := 15) rfl rfl (by decide))) ?_
 refine ro rfl rfl (OpOk.step (ok_moveb (c := false) (.inr rfl) rfl)) ?_
 refine ro_nil ?_
 refine keepK hK1 [1] (by dsimp) (by dsimp) ?_
 refine T.seq fun K2 hK2 => ?_
 refine T.seq fun K3 hK3 => ?_
 refine T.region ?_ -- region 1
 refine ro rfl rfl (OpOk.step (ok_move (.inr rfl))) ?_
 refine ro_nil ?_
 refine keepK hK3 [1, 3] (by dsimp) (by dsimp) ?_
 refine T.block ?_
 refine T.loopI (ι := Nat) (fun i => i ≤ s.st.length ∧ ∀ y ∈ s.st.take i, decide (y = 2) = false) (fun i => s.st.length - i) (fun i => ([(1, .ref 0 0 0), (3, .int i)], [some (StB s)])) 0 ⟨Nat.zero_le _, fun y hy => by simp at hy⟩ (TEnt.toH rfl ⟨rfl, rfl, trivial⟩) (fun i hi => ?_) -- loop 1
 obtain ⟨hil, hno⟩ := hi
 refine T.seq fun K4 hK4 => ?_
 refine T.seq fun K5 hK5 => ?_
 refine T.region ?_ -- region 2
 refine ro rfl rfl (OpOk.step (ok_move (.inl rfl))) ?_
 refine ro rfl rfl (OpOk.step (ok_fieldAddr rfl ti_api_State rfl rfl ti_Lint (by decide) rfl)) ?_
 refine ro rfl rfl (OpOk.step (ok_load rfl ti_Lint rfl rfl)) ?_
 refine ro rfl rfl (OpOk.step (ok_len' rfl rfl ti_Lint rfl (by first | exact ints_length _ _ | exact rowsA_length _ _ | exact Cms_len _ | exact mapLen _ | rfl))) ?_
 refine ro rfl rfl (OpOk.step (ok_binOp rfl ti_int rfl)) ?_
 refine ro_nil ?_
 refine keepK hK5 [1, 3, 8] (by dsimp) (by dsimp) ?_
 refine T.cond rfl (fun hc => ?_) (fun hc => ?_) -- cond 1
 ·(try simp only [dE] at hc)
  obtain ⟨y, hy⟩ : ∃ y, s.st[i]? = some y := ⟨_, List.getElem?_eq_getElem (by omega)⟩
  refine T.skip ?_
  refine keepK hK4 [1, 3] (by dsimp) (by dsimp) ?_
  refine T.seq fun K6 hK6 => ?_
  refine T.block ?_
  refine T.seq fun K7 hK7 => ?_
  refine T.region ?_ -- region 4
  refine ro rfl rfl (OpOk.step (ok_fieldAddr rfl ti_api_State rfl rfl ti_Lint (by decide) rfl)) ?_
  refine ro rfl rfl (OpOk.step (ok_load rfl ti_Lint rfl rfl)) ?_
  refine ro rfl rfl (OpOk.step (ok_move (.inl rfl))) ?_
  refine ro rfl rfl (OpOk.step (by exact ok_index_ints rfl ti_Lint rfl ti_int rfl rfl rfl (by omega) (by simpa using hy))) ?_
  refine ro rfl rfl (OpOk.step (ok_load rfl ti_int rfl rfl)) ?_
  refine ro rfl rfl (OpOk.step (ok_binOp rfl ti_int rfl)) ?_
  refine ro_nil ?_
  refine keepK hK7 [1, 3, 16] (by dsimp) (by dsimp) ?_
  refine T.cond rfl (fun hc => ?_) (fun hc => ?_) -- cond 2
  ·(try simp only [dE] at hc)
   rw [decide_eq_true (by rw [← hc]; exact List.mem_of_getElem? hy)] at hQ
   refine T.seq fun K8 hK8 => ?_
   refine T.region ?_ -- region 5
   refine ro rfl rfl (OpOk.step (ok_moveb (c := true) (.inr rfl) rfl)) ?_
   refine ro_nil ?_
   refine keepK hK8 [2] (by dsimp) (by dsimp) ?_
   refine T.ret (hQ _ _ _ rfl ?_).1 -- ret 1
   exact TEnt.fin [] (by decide) (by simp) rfl ⟨rfl, trivial⟩
  ·(try simp only [dE] at hc)
   refine T.skip ?_
   refine keepK hK6 [1, 3] (by dsimp) (by dsimp) ?_
   refine T.region ?_ -- region 3
   refine ro rfl rfl (OpOk.step (ok_move (.inl rfl))) ?_
   refine ro rfl rfl (OpOk.step (ok_add64 rfl ti_int rfl rfl (by omega) (by omega))) ?_
   refine ro rfl rfl (OpOk.step (ok_move (.inr rfl))) ?_
   refine ro_nil ?_
   exact ⟨i + 1, ⟨by omega, take_snoc_all hy hno (decide_eq_false hc)⟩, by omega, TEnt.toH rfl ⟨rfl, rfl, trivial⟩⟩
 ·(try simp only [dE] at hc)
  have hin : i = s.st.length := by omega
  rw [hin, List.take_length] at hno
  rw [decide_eq_false (fun h => by have := hno 2 h; simp at this)] at hQ
  refine T.exit ?_
  refine keepK hK2 [] (by dsimp) (by dsimp) ?_
  refine T.seq fun K9 hK9 => ?_
  refine T.region ?_ -- region 6
  refine ro rfl rfl (OpOk.step (ok_moveb (c := false) (.inr rfl) rfl)) ?_
  refine ro_nil ?_
  refine keepK hK9 [2] (by dsimp) (by dsimp) ?_
  refine T.ret (hQ _ _ _ rfl ?_).1 -- ret 2
  exact TEnt.fin [] (by decide) (by simp) rfl ⟨rfl, trivial⟩
theorem rodd_ok (s : St) (hn : s.st.length ≤ 1000000000) : CSpec Try.prog 106 [] [.agg (StC s)] [] (.tup [.int (oddS s.st).1, .int (oddS s.st).2.1, .b (oddS s.st).2.2]) := by
 refine CSpec.body Try.func106 rfl rfl rfl rfl rfl fun Q hQ => ?_
 refine T.seq fun K1 hK1 => ?_
 refine T.region ?_ -- region 0
 refine ro rfl rfl (OpOk.step (ok_box (n := 15) rfl rfl (by decide))) ?_
 refine ro rfl rfl (OpOk.step (ok_move (.inr rfl))) ?_
 refine ro rfl rfl (OpOk.step (ok_move (.inr rfl))) ?_
 refine ro rfl rfl (OpOk.step (ok_moveb (c := false) (.inr rfl) rfl)) ?_
 refine ro_nil ?_
 refine keepK hK1 [1] (by dsimp) (by dsimp) ?_
 refine T.seq fun K2 hK2 => ?_
 refine T.seq fun K3 hK3 => ?_
 refine T.region ?_ -- region 1
 refine ro rfl rfl (OpOk.step (ok_move (.inr rfl))) ?_
 refine ro_nil ?_
 refine keepK hK3 [1, 5] (by dsimp) (by dsimp) ?_
 refine T.block ?_
 refine T.loopI (ι := Nat) (fun i => i ≤ s.st.length ∧ ∀ y ∈ s.st.take i, oddP y = false) (fun i => s.st.length - i) (fun i => ([(1, .ref 0 0 0), (5, .int i)], [some (StB s)])) 0 ⟨Nat.zero_le _, fun y hy => by simp at hy⟩ (TEnt.toH rfl ⟨rfl, rfl, trivial⟩) (fun i hi => ?_) -- loop 1
 obtain ⟨hil, hno⟩ := hi
 refine T.seq fun K4 hK4 => ?_
 refine T.seq fun K5 hK5 => ?_
 refine T.region ?_ -- region 2
 refine ro rfl rfl (OpOk.step (ok_move (.inl rfl))) ?_
 refine ro rfl rfl (OpOk.step (ok_fieldAddr rfl ti_api_State rfl rfl ti_Lint (by decide) rfl)) ?_
 refine ro rfl rfl (OpOk.step (ok_load rfl ti_Lint rfl rfl)) ?_
 refine ro rfl rfl (OpOk.step (ok_len' rfl rfl ti_Lint rfl (by first | exact ints_length _ _ | exact rowsA_length _ _ | exact Cms_len _ | exact mapLen _ | rfl))) ?_
 refine ro rfl rfl (OpOk.step (ok_binOp rfl ti_int rfl)) ?_
 refine ro_nil ?_
 refine keepK hK5 [1, 5, 10] (by dsimp) (by dsimp) ?_
 refine T.cond rfl (fun hc => ?_) (fun hc => ?_) -- cond 1
 ·(try simp only [dE] at hc)
  obtain ⟨y, hy⟩ : ∃ y, s.st[i]? = some y := ⟨_, List.getElem?_eq_getElem (by omega)⟩
  refine T.skip ?_
  refine keepK hK4 [1, 5] (by dsimp) (by dsimp) ?_
  refine T.seq fun K6 hK6 => ?_
  refine T.block ?_
  refine T.seq fun K7 hK7 => ?_
  refine T.region ?_ -- region 4
  refine ro rfl rfl (OpOk.step (ok_fieldAddr rfl ti_api_State rfl rfl ti_Lint (by decide) rfl)) ?_
  refine ro rfl rfl (OpOk.step (ok_load rfl ti_Lint rfl rfl)) ?_
  refine ro rfl rfl (OpOk.step (ok_move (.inl rfl))) ?_
  refine ro rfl rfl (OpOk.step (by exact ok_index_ints rfl ti_Lint rfl ti_int rfl rfl rfl (by omega) (by simpa using hy))) ?_
  refine ro rfl rfl (OpOk.step (ok_load rfl ti_int rfl rfl)) ?_
  refine ro rfl rfl (OpOk.step (ok_binOp rfl ti_int rfl)) ?_
  refine ro_nil ?_
  refine keepK hK7 [1, 5, 18] (by dsimp) (by dsimp) ?_
  refine T.cond rfl (fun hc => ?_) (fun hc => ?_) -- cond 2
  ·(try simp only [dE] at hc)
   have hfi : fIdx oddP s.st = i := fIdx_hit hy (by simp [oddP]; omega) hno
   have e : oddS s.st = ((i : Int), y, true) := by
     unfold oddS
     rw [hfi, if_neg (by omega), List.getD_eq_getElem?_getD, Int.toNat_natCast, hy]
     rfl
   rw [e] at hQ
   refine T.seq fun K8 hK8 => ?_
   refine T.drawH mixed [] ?_ -- region 5
   refine any_take 0 rfl (by first | rfl | decide +kernel) rfl (HeldL.refl _) (fun H' hH => OpOk.step (ok_move (.inl rfl))) ?_
   refine any_take 1 rfl (by first | rfl | decide +kernel) rfl (HeldL.refl _) (fun H' hH => OpOk.step (ok_fieldAddr rfl ti_api_State rfl rfl ti_Lint (by decide) rfl)) ?_
   refine any_take 2 rfl (by first | rfl | decide +kernel) rfl (HeldL.refl _) (fun H' hH => OpOk.step (ok_load rfl ti_Lint (locA_held hH rfl) rfl)) ?_
   refine any_take 3 rfl (by first | rfl | decide +kernel) rfl (HeldL.refl _) (fun H' hH => OpOk.step (ok_move (.inl rfl))) ?_
   refine any_take 4 rfl (by first | rfl | decide +kernel) rfl (HeldL.refl _) (fun H' hH => OpOk.step (by exact ok_index_ints rfl ti_Lint rfl ti_int rfl rfl rfl (by omega) (by simpa using hy))) ?_
   refine any_take 5 rfl (by first | rfl | decide +kernel) rfl (HeldL.refl _) (fun H' hH => OpOk.step (ok_load rfl ti_int (locA_held hH rfl) rfl)) ?_
   refine any_take 6 rfl (by first | rfl | decide +kernel) rfl (HeldL.refl _) (fun H' hH => OpOk.step (ok_move (.inr rfl))) ?_
   refine any_take 7 rfl (by first | rfl | decide +kernel) rfl (HeldL.refl _) (fun H' hH => OpOk.step (ok_move (.inr rfl))) ?_
   refine any_take 8 rfl (by first | rfl | decide +kernel) rfl (HeldL.refl _) (fun H' hH => OpOk.step (ok_moveb (c := true) (.inr rfl) rfl)) ?_
   refine any_done rfl ?_
   refine keepK hK8 [2, 3, 4] (by dsimp) (by dsimp) ?_
   refine T.ret (hQ _ _ _ rfl ?_).1 -- ret 1
   exact TEnt.fin [] (by decide) (by simp) rfl ⟨rfl, trivial⟩
  ·(try simp only [dE] at hc)
   refine T.skip ?_
   refine keepK hK6 [1, 5] (by dsimp) (by dsimp) ?_
   refine T.region ?_ -- region 3
   refine ro rfl rfl (OpOk.step (ok_move (.inl rfl))) ?_
   refine ro rfl rfl (OpOk.step (ok_add64 rfl ti_int rfl rfl (by omega) (by omega))) ?_
   refine ro rfl rfl (OpOk.step (ok_move (.inr rfl))) ?_
   refine ro_nil ?_
   exact ⟨i + 1, ⟨by omega, take_snoc_all hy hno (by simp [oddP]; omega)⟩, by omega, TEnt.toH rfl ⟨rfl, rfl, trivial⟩⟩
 ·(try simp only [dE] at hc)
  have hin : i = s.st.length := by omega
  rw [hin, List.take_length] at hno
  have e : oddS s.st = (0, 0, false) := by unfold oddS; rw [fIdx_none hno]; rfl
  rw [e] at hQ
  refine T.exit ?_
  refine keepK hK2 [] (by dsimp) (by dsimp) ?_
  refine T.seq fun K9 hK9 => ?_
  refine T.region ?_ -- region 6
  refine ro rfl rfl (OpOk.step (ok_move (.inr rfl))) ?_
  refine ro rfl rfl (OpOk.step (ok_move (.inr rfl))) ?_
  refine ro rfl rfl (OpOk.step (ok_moveb (c := false) (.inr rfl) rfl)) ?_
  refine ro_nil ?_
  refine keepK hK9 [2, 3, 4] (by dsimp) (by dsimp) ?_
  refine T.ret (hQ _ _ _ rfl ?_).1 -- ret 2
  exact TEnt.fin [] (by decide) (by simp) rfl ⟨rfl, trivial⟩
theorem rhas_ok (s : St) (n : Int) (hn : s.zs.length ≤ 1000000000) : CSpec Try.prog 108 [] [.agg (StC s), .int n] [] (.b (hasZ s.zs n)) := by
 refine CSpec.body Try.func108 rfl rfl rfl rfl rfl fun Q hQ => ?_
 refine T.seq fun K1 hK1 => ?_
 refine T.region ?_ -- region 0
 refine ro rfl rfl (OpOk.step (ok_box (n := 15) rfl rfl (by decide))) ?_
 refine ro rfl rfl (OpOk.step (ok_moveb (c := false) (.inr rfl) rfl)) ?_
 refine ro_nil ?_
 refine keepK hK1 [1, 2] (by dsimp) (by dsimp) ?_
 refine T.seq fun K2 hK2 => ?_
 refine T.seq fun K3 hK3 => ?_
 refine T.region ?_ -- region 1
 refine ro rfl rfl (OpOk.step (ok_move (.inr rfl))) ?_
 refine ro_nil ?_
 refine keepK hK3 [1, 2, 5] (by dsimp) (by dsimp) ?_
 refine T.block ?_
 refine T.loopI (ι := Nat) (fun i => i ≤ s.zs.length ∧ ∀ y ∈ s.zs.take i, decide (y.slot = n) = false) (fun i => s.zs.length - i) (fun i => ([(1, .int n), (2, .ref 0 0 0), (5, .int i)], [some (StB s)])) 0 ⟨Nat.zero_le _, fun y hy => by simp at hy⟩ (TEnt.toH rfl ⟨rfl, rfl, rfl, trivial⟩) (fun i hi => ?_) -- loop 1
 obtain ⟨hil, hno⟩ := hi
 refine T.seq fun K4 hK4 => ?_
 refine T.seq fun K5 hK5 => ?_
 refine T.region ?_ -- region 2
 refine ro rfl rfl (OpOk.step (ok_move (.inl rfl))) ?_
 refine ro rfl rfl (OpOk.step (ok_fieldAddr rfl ti_api_State rfl rfl ti_Lapi_Zone (by decide) rfl)) ?_
 refine ro rfl rfl (OpOk.step (ok_load rfl ti_Lapi_Zone rfl rfl)) ?_
 refine ro rfl rfl (OpOk.step (ok_len' rfl rfl ti_Lapi_Zone rfl (by first | exact ints_length _ _ | exact rowsA_length _ _ | exact Cms_len _ | exact mapLen _ | rfl))) ?_
 refine ro rfl rfl (OpOk.step (ok_binOp rfl ti_int rfl)) ?_
 refine ro_nil ?_
 refine keepK hK5 [1, 2, 5, 10] (by dsimp) (by dsimp) ?_
 refine T.cond rfl (fun hc => ?_) (fun hc => ?_) -- cond 1
 ·(try simp only [dE] at hc)
  rw [Zns_len] at hc
  obtain ⟨y, hy⟩ : ∃ y, s.zs[i]? = some y := ⟨_, List.getElem?_eq_getElem (by omega)⟩
  refine T.skip ?_
  refine keepK hK4 [1, 2, 5] (by dsimp) (by dsimp) ?_
  refine T.seq fun K6 hK6 => ?_
  refine T.block ?_
  refine T.seq fun K7 hK7 => ?_
  refine T.region ?_ -- region 4
  refine ro rfl rfl (OpOk.step (ok_fieldAddr rfl ti_api_State rfl rfl ti_Lapi_Zone (by decide) rfl)) ?_
  refine ro rfl rfl (OpOk.step (ok_load rfl ti_Lapi_Zone rfl rfl)) ?_
  refine ro rfl rfl (OpOk.step (ok_move (.inl rfl))) ?_
  refine ro rfl rfl (OpOk.step (by exact ok_index_map (F := ZnC) rfl ti_Lapi_Zone rfl ti_api_Zone rfl rfl rfl hy (by simp [ZnC]))) ?_
  refine ro rfl rfl (OpOk.step (ok_fieldAddr rfl ti_api_Zone rfl rfl ti_int (by decide) rfl)) ?_
  refine ro rfl rfl (OpOk.step (ok_load rfl ti_int rfl rfl)) ?_
  refine ro rfl rfl (OpOk.step (ok_move (.inl rfl))) ?_
  refine ro rfl rfl (OpOk.step (ok_binOp rfl ti_int rfl)) ?_
  refine ro_nil ?_
  refine keepK hK7 [1, 2, 5, 20] (by dsimp) (by dsimp) ?_
  refine T.cond rfl (fun hc => ?_) (fun hc => ?_) -- cond 2
  ·(try simp only [dE] at hc)
   have e : hasZ s.zs n = true := by rw [hasZ_seen]; exact ⟨y, List.mem_of_getElem? hy, by omega⟩
   rw [e] at hQ
   refine T.seq fun K8 hK8 => ?_
   refine T.region ?_ -- region 5
   refine ro rfl rfl (OpOk.step (ok_moveb (c := true) (.inr rfl) rfl)) ?_
   refine ro_nil ?_
   refine keepK hK8 [4] (by dsimp) (by dsimp) ?_
   refine T.ret (hQ _ _ _ rfl ?_).1 -- ret 1
   exact TEnt.fin [] (by decide) (by simp) rfl ⟨rfl, trivial⟩
  ·(try simp only [dE] at hc)
   refine T.skip ?_
   refine keepK hK6 [1, 2, 5] (by dsimp) (by dsimp) ?_
   refine T.region ?_ -- region 3
   refine ro rfl rfl (OpOk.step (ok_move (.inl rfl))) ?_
   refine ro rfl rfl (OpOk.step (ok_add64 rfl ti_int rfl rfl (by omega) (by omega))) ?_
   refine ro rfl rfl (OpOk.step (ok_move (.inr rfl))) ?_
   refine ro_nil ?_
   exact ⟨i + 1, ⟨by omega, take_snoc_all hy hno (decide_eq_false (by omega))⟩, by omega, TEnt.toH rfl ⟨rfl, rfl, rfl, trivial⟩⟩
 ·(try simp only [dE] at hc)
  rw [Zns_len] at hc
  have hin : i = s.zs.length := by omega
  rw [hin, List.take_length] at hno
  have e : hasZ s.zs n = false := by
    rw [← Bool.not_eq_true, hasZ_seen]
    rintro ⟨z, hz, e⟩
    have := hno z hz
    simp [e] at this
  rw [e] at hQ
  refine T.exit ?_
  refine keepK hK2 [] (by dsimp) (by dsimp) ?_
  refine T.seq fun K9 hK9 => ?_
  refine T.region ?_ -- region 6
  refine ro rfl rfl (OpOk.step (ok_moveb (c := false) (.inr rfl) rfl)) ?_
  refine ro_nil ?_
  refine keepK hK9 [4] (by dsimp) (by dsimp) ?_
  refine T.ret (hQ _ _ _ rfl ?_).1 -- ret 2
  exact TEnt.fin [] (by decide) (by simp) rfl ⟨rfl, trivial⟩
/-- What a zone without a slot lacks, and what needs its end or a rebuild. -/
def Q4 (rb : Bool) (z : Zn) : Prop := (z.slot = -1 → ¬ 0 < z.w ∧ z.whole = false ∧ ¬ 0 < z.pars.length) ∧ (z.full = false → ¬ 0 < z.w) ∧ (z.whole = true → rb = true)
instance (rb : Bool) (z : Zn) : Decidable (Q4 rb z) := by unfold Q4; infer_instance
theorem RZ_no4 {c : Cf} {rb : Bool} {z : Zn} (h : ¬ Q4 rb z) : ¬ RZ c rb z := by
  rintro ⟨_, _, h3, h4, h5, _, h7, _⟩
  refine h ⟨fun e => ⟨fun h' => (h4 h').2 e, ?_, fun h' => h7 (by simpa using h') e⟩, fun e h' => ?_, fun e => (h5 e).2⟩
  · cases hw : z.whole with
    | true => exact absurd e (h5 hw).1
    | false => rfl
  · rw [(h4 h').1] at e; cases e
theorem RZ_iff {c : Cf} {rb : Bool} {z : Zn} (h1 : (0 ≤ z.gen ∧ z.gen ≤ 1099511627776) ∧ (-1 ≤ z.slot ∧ z.slot < slotsC c) ∧ (0 ≤ z.w ∧ z.w ≤ sizeC c) ∧ z.pars.length ≤ 2) (h : Q4 rb z) (hp : ∀ p ∈ z.pars, PG c p) : RZ c rb z := by
  obtain ⟨a, b, c', d⟩ := h1
  obtain ⟨q1, q2, q3⟩ := h
  refine ⟨a, b, c', fun h => ⟨?_, fun e => (q1 e).1 h⟩, fun h => ⟨fun e => ?_, q3 h⟩, d, fun h e => (q1 e).2.2 h, hp⟩
  · cases hf : z.full with
    | true => rfl
    | false => exact absurd h (q2 hf)
  · rw [(q1 e).2.1] at h; cases h
theorem rrzone_ok (s : St) (z : Zn) (hck : chkC s.c = 0) (hn : s.st.length ≤ 1000000000) : CSpec Try.prog 70 [] [.agg (StC s), .agg (ZnC z)] [] (.b (decide (RZ s.c (decide (2 ∈ s.st)) z))) := by
 have hk := chkC_ok hck
 have hm := mul_bd (a := s.c.unit) (b := s.c.blk) (A := 64) (B := 4096) (by have := hk.2.2.1; omega) (by have := hk.2.2.1; omega) (by have := hk.2.2.2.1; omega) (by have := hk.2.2.2.1; omega)
 refine CSpec.body Try.func70 rfl rfl rfl rfl rfl fun Q hQ => ?_
 refine T.seq fun K1 hK1 => ?_
 refine T.region ?_ -- region 0
 refine ro rfl rfl (OpOk.step (ok_box (n := 15) rfl rfl (by decide))) ?_
 refine ro rfl rfl (OpOk.step (ok_box (n := 6) rfl rfl (by decide))) ?_
 refine ro rfl rfl (OpOk.step (ok_moveb (c := false) (.inr rfl) rfl)) ?_
 refine ro_nil ?_
 refine keepK hK1 [2, 3] (by dsimp) (by dsimp) ?_
 refine T.seq fun K2 hK2 => ?_
 refine T.drawH mixed [] ?_ -- region 1
 refine any_take 0 rfl (by first | rfl | decide +kernel) rfl (HeldL.refl _) (fun H' hH => OpOk.step (ok_fieldAddr rfl ti_api_State rfl rfl ti_api_Conf (by decide) rfl)) ?_
 refine any_take 1 rfl (by first | rfl | decide +kernel) rfl (HeldL.refl _) (fun H' hH => OpOk.step (ok_load rfl ti_api_Conf (locA_held hH rfl) rfl)) ?_
 refine any_take 3 rfl (by first | rfl | decide +kernel) rfl (HeldL.refl _) (fun H' hH => OpOk.step (ok_fieldAddr rfl ti_api_State rfl rfl ti_api_Conf (by decide) rfl)) ?_
 refine any_take 4 rfl (by first | rfl | decide +kernel) rfl (HeldL.refl _) (fun H' hH => OpOk.step (ok_load rfl ti_api_Conf (locA_held hH rfl) rfl)) ?_
 refine any_one 2 rfl (by first | rfl | decide +kernel) rfl rfl (ok_call rfl rfl rfl ((rsize_ok s.c).plain (by show renL _ [.agg (CC s.c)] = _; simp [renL, AV.ren, CC_ren]) rfl)) (.inr (by first | (simp [HeldL]; done) | (simp only [HeldL, List.map_cons, List.map_nil, List.cons_append, List.nil_append, List.set_cons_zero, List.set_cons_succ]; (repeat' first | trivial | rfl | constructor)))) ?_
 refine any_one 5 rfl (by first | rfl | decide +kernel) rfl rfl (ok_call rfl rfl rfl ((nums_ok s.c).plain (by show renL _ [.agg (CC s.c)] = _; simp [renL, AV.ren, CC_ren]) (by simp [AV.ren, renL_ints]))) (.inr (by first | (simp [HeldL]; done) | (simp only [HeldL, List.map_cons, List.map_nil, List.cons_append, List.nil_append, List.set_cons_zero, List.set_cons_succ]; (repeat' first | trivial | rfl | constructor)))) ?_
 refine any_take 6 rfl (by first | rfl | decide +kernel) rfl (by first | exact HeldL.refl _ | exact HeldL.append _ _ | simp [HeldL]) (fun H' hH => OpOk.step (ok_index rfl ti_A7int rfl ti_int rfl rfl (by omega) (by omega) rfl)) ?_
 refine any_take 7 rfl (by first | rfl | decide +kernel) rfl (by first | exact HeldL.refl _ | exact HeldL.append _ _ | simp [HeldL]) (fun H' hH => OpOk.step (ok_move (.inr rfl))) ?_
 refine any_take 8 rfl (by first | rfl | decide +kernel) rfl (by first | exact HeldL.refl _ | exact HeldL.append _ _ | simp [HeldL]) (fun H' hH => OpOk.step (ok_move (.inr rfl))) ?_
 refine any_done rfl ?_
 refine keepK hK2 [2, 3, 5, 6] (by dsimp) (by dsimp) ?_
 refine T.seq fun K3 hK3 => ?_
 refine T.seq fun K4 hK4 => ?_
 refine T.region ?_ -- region 2
 refine ro rfl rfl (OpOk.step (ok_fieldAddr rfl ti_api_Zone rfl rfl ti_int (by decide) rfl)) ?_
 refine ro rfl rfl (OpOk.step (ok_load rfl ti_int rfl rfl)) ?_
 refine ro rfl rfl (OpOk.step (ok_binOp rfl ti_int rfl)) ?_
 refine ro_case rfl rfl (OpOk.step (ok_moveb (.inl rfl) rfl)) (fun hb => ?_) (fun hb => ?_)
 ·(try simp only [dE] at hb)
  refine ro_skip rfl rfl ?_
  refine ro_skip rfl rfl ?_
  refine ro_skip rfl rfl ?_
  refine ro rfl rfl (OpOk.step (ok_pickb (t := true) (d := true) rfl rfl rfl)) ?_
  refine ro rfl rfl (OpOk.step (ok_moveb (c := true) (.inl rfl) rfl)) ?_
  refine ro_skip rfl rfl ?_
  refine ro_skip rfl rfl ?_
  refine ro_skip rfl rfl ?_
  refine ro rfl rfl (OpOk.step (ok_pickb (t := true) (d := true) rfl rfl rfl)) ?_
  refine ro rfl rfl (OpOk.step (ok_moveb (c := true) (.inl rfl) rfl)) ?_
  refine ro_skip rfl rfl ?_
  refine ro_skip rfl rfl ?_
  refine ro_skip rfl rfl ?_
  refine ro_skip rfl rfl ?_
  refine ro rfl rfl (OpOk.step (ok_pickb (t := true) (d := true) rfl rfl rfl)) ?_
  refine ro rfl rfl (OpOk.step (ok_moveb (c := true) (.inl rfl) rfl)) ?_
  refine ro_skip rfl rfl ?_
  refine ro_skip rfl rfl ?_
  refine ro_skip rfl rfl ?_
  refine ro rfl rfl (OpOk.step (ok_pickb (t := true) (d := true) rfl rfl rfl)) ?_
  refine ro rfl rfl (OpOk.step (ok_moveb (c := true) (.inl rfl) rfl)) ?_
  refine ro_skip rfl rfl ?_
  refine ro_skip rfl rfl ?_
  refine ro_skip rfl rfl ?_
  refine ro_skip rfl rfl ?_
  refine ro rfl rfl (OpOk.step (ok_pickb (t := true) (d := true) rfl rfl rfl)) ?_
  refine ro rfl rfl (OpOk.step (ok_moveb (c := true) (.inl rfl) rfl)) ?_
  refine ro_skip rfl rfl ?_
  refine ro_skip rfl rfl ?_
  refine ro_skip rfl rfl ?_
  refine ro_skip rfl rfl ?_
  refine ro rfl rfl (OpOk.step (ok_pickb (t := true) (d := true) rfl rfl rfl)) ?_
  refine ro_nil ?_
  refine keepK hK4 [2, 3, 5, 50] (by dsimp) (by dsimp) ?_
  refine T.cond_true rfl ?_
  refine T.seq fun K5 hK5 => ?_
  refine T.region ?_ -- region 3
  refine ro rfl rfl (OpOk.step (ok_moveb (c := false) (.inr rfl) rfl)) ?_
  refine ro_nil ?_
  refine keepK hK5 [4] (by dsimp) (by dsimp) ?_
  refine T.ret (hQ _ _ _ rfl ?_).1 -- ret 1
  exact by (rw [decide_eq_false (fun h => by obtain ⟨⟨h1, h2⟩, ⟨h3, h4⟩, ⟨h5, h6⟩, h7, h8, h9, h10, h11⟩ := h; omega)]; exact TEnt.fin [] (by decide) (by simp) rfl ⟨rfl, trivial⟩)
 ·(try simp only [dE] at hb)
  refine ro rfl rfl (OpOk.step (ok_fieldAddr rfl ti_api_Zone rfl rfl ti_int (by decide) rfl)) ?_
  refine ro rfl rfl (OpOk.step (ok_load rfl ti_int rfl rfl)) ?_
  refine ro rfl rfl (OpOk.step (ok_binOp rfl ti_int rfl)) ?_
  refine ro rfl rfl (OpOk.step (ok_pick rfl rfl)) ?_
  refine ro_case rfl rfl (OpOk.step (ok_moveb (.inl rfl) rfl)) (fun hb => ?_) (fun hb => ?_)
  ·(try simp only [dE] at hb)
   refine ro_skip rfl rfl ?_
   refine ro_skip rfl rfl ?_
   refine ro_skip rfl rfl ?_
   refine ro rfl rfl (OpOk.step (ok_pickb (t := true) (d := true) rfl rfl rfl)) ?_
   refine ro rfl rfl (OpOk.step (ok_moveb (c := true) (.inl rfl) rfl)) ?_
   refine ro_skip rfl rfl ?_
   refine ro_skip rfl rfl ?_
   refine ro_skip rfl rfl ?_
   refine ro_skip rfl rfl ?_
   refine ro rfl rfl (OpOk.step (ok_pickb (t := true) (d := true) rfl rfl rfl)) ?_
   refine ro rfl rfl (OpOk.step (ok_moveb (c := true) (.inl rfl) rfl)) ?_
   refine ro_skip rfl rfl ?_
   refine ro_skip rfl rfl ?_
   refine ro_skip rfl rfl ?_
   refine ro rfl rfl (OpOk.step (ok_pickb (t := true) (d := true) rfl rfl rfl)) ?_
   refine ro rfl rfl (OpOk.step (ok_moveb (c := true) (.inl rfl) rfl)) ?_
   refine ro_skip rfl rfl ?_
   refine ro_skip rfl rfl ?_
   refine ro_skip rfl rfl ?_
   refine ro_skip rfl rfl ?_
   refine ro rfl rfl (OpOk.step (ok_pickb (t := true) (d := true) rfl rfl rfl)) ?_
   refine ro rfl rfl (OpOk.step (ok_moveb (c := true) (.inl rfl) rfl)) ?_
   refine ro_skip rfl rfl ?_
   refine ro_skip rfl rfl ?_
   refine ro_skip rfl rfl ?_
   refine ro_skip rfl rfl ?_
   refine ro rfl rfl (OpOk.step (ok_pickb (t := true) (d := true) rfl rfl rfl)) ?_
   refine ro_nil ?_
   refine keepK hK4 [2, 3, 5, 50] (by dsimp) (by dsimp) ?_
   refine T.cond_true rfl ?_
   refine T.seq fun K6 hK6 => ?_
   refine T.region ?_ -- region 3
   refine ro rfl rfl (OpOk.step (ok_moveb (c := false) (.inr rfl) rfl)) ?_
   refine ro_nil ?_
   refine keepK hK6 [4] (by dsimp) (by dsimp) ?_
   refine T.ret (hQ _ _ _ rfl ?_).1 -- ret 2
   exact by (rw [decide_eq_false (fun h => by obtain ⟨⟨h1, h2⟩, ⟨h3, h4⟩, ⟨h5, h6⟩, h7, h8, h9, h10, h11⟩ := h; omega)]; exact TEnt.fin [] (by decide) (by simp) rfl ⟨rfl, trivial⟩)
  ·(try simp only [dE] at hb)
   refine ro rfl rfl (OpOk.step (ok_fieldAddr rfl ti_api_Zone rfl rfl ti_int (by decide) rfl)) ?_
   refine ro rfl rfl (OpOk.step (ok_load rfl ti_int rfl rfl)) ?_
   refine ro rfl rfl (OpOk.step (ok_binOp rfl ti_int rfl)) ?_
   refine ro rfl rfl (OpOk.step (ok_pick rfl rfl)) ?_
   refine ro_case rfl rfl (OpOk.step (ok_moveb (.inl rfl) rfl)) (fun hb => ?_) (fun hb => ?_)
   ·(try simp only [dE] at hb)
    refine ro_skip rfl rfl ?_
    refine ro_skip rfl rfl ?_
    refine ro_skip rfl rfl ?_
    refine ro_skip rfl rfl ?_
    refine ro rfl rfl (OpOk.step (ok_pickb (t := true) (d := true) rfl rfl rfl)) ?_
    refine ro rfl rfl (OpOk.step (ok_moveb (c := true) (.inl rfl) rfl)) ?_
    refine ro_skip rfl rfl ?_
    refine ro_skip rfl rfl ?_
    refine ro_skip rfl rfl ?_
    refine ro rfl rfl (OpOk.step (ok_pickb (t := true) (d := true) rfl rfl rfl)) ?_
    refine ro rfl rfl (OpOk.step (ok_moveb (c := true) (.inl rfl) rfl)) ?_
    refine ro_skip rfl rfl ?_
    refine ro_skip rfl rfl ?_
    refine ro_skip rfl rfl ?_
    refine ro_skip rfl rfl ?_
    refine ro rfl rfl (OpOk.step (ok_pickb (t := true) (d := true) rfl rfl rfl)) ?_
    refine ro rfl rfl (OpOk.step (ok_moveb (c := true) (.inl rfl) rfl)) ?_
    refine ro_skip rfl rfl ?_
    refine ro_skip rfl rfl ?_
    refine ro_skip rfl rfl ?_
    refine ro_skip rfl rfl ?_
    refine ro rfl rfl (OpOk.step (ok_pickb (t := true) (d := true) rfl rfl rfl)) ?_
    refine ro_nil ?_
    refine keepK hK4 [2, 3, 5, 50] (by dsimp) (by dsimp) ?_
    refine T.cond_true rfl ?_
    refine T.seq fun K7 hK7 => ?_
    refine T.region ?_ -- region 3
    refine ro rfl rfl (OpOk.step (ok_moveb (c := false) (.inr rfl) rfl)) ?_
    refine ro_nil ?_
    refine keepK hK7 [4] (by dsimp) (by dsimp) ?_
    refine T.ret (hQ _ _ _ rfl ?_).1 -- ret 3
    exact by (rw [decide_eq_false (fun h => by obtain ⟨⟨h1, h2⟩, ⟨h3, h4⟩, ⟨h5, h6⟩, h7, h8, h9, h10, h11⟩ := h; omega)]; exact TEnt.fin [] (by decide) (by simp) rfl ⟨rfl, trivial⟩)
   ·(try simp only [dE] at hb)
    refine ro rfl rfl (OpOk.step (ok_fieldAddr rfl ti_api_Zone rfl rfl ti_int (by decide) rfl)) ?_
    refine ro rfl rfl (OpOk.step (ok_load rfl ti_int rfl rfl)) ?_
    refine ro rfl rfl (OpOk.step (ok_move (.inl rfl))) ?_
    refine ro rfl rfl (OpOk.step (ok_binOp rfl ti_int rfl)) ?_
    refine ro rfl rfl (OpOk.step (ok_pick rfl rfl)) ?_
    refine ro_case rfl rfl (OpOk.step (ok_moveb (.inl rfl) rfl)) (fun hb => ?_) (fun hb => ?_)
    ·(try simp only [dE] at hb)
     refine ro_skip rfl rfl ?_
     refine ro_skip rfl rfl ?_
     refine ro_skip rfl rfl ?_
     refine ro rfl rfl (OpOk.step (ok_pickb (t := true) (d := true) rfl rfl rfl)) ?_
     refine ro rfl rfl (OpOk.step (ok_moveb (c := true) (.inl rfl) rfl)) ?_
     refine ro_skip rfl rfl ?_
     refine ro_skip rfl rfl ?_
     refine ro_skip rfl rfl ?_
     refine ro_skip rfl rfl ?_
     refine ro rfl rfl (OpOk.step (ok_pickb (t := true) (d := true) rfl rfl rfl)) ?_
     refine ro rfl rfl (OpOk.step (ok_moveb (c := true) (.inl rfl) rfl)) ?_
     refine ro_skip rfl rfl ?_
     refine ro_skip rfl rfl ?_
     refine ro_skip rfl rfl ?_
     refine ro_skip rfl rfl ?_
     refine ro rfl rfl (OpOk.step (ok_pickb (t := true) (d := true) rfl rfl rfl)) ?_
     refine ro_nil ?_
     refine keepK hK4 [2, 3, 5, 50] (by dsimp) (by dsimp) ?_
     refine T.cond_true rfl ?_
     refine T.seq fun K8 hK8 => ?_
     refine T.region ?_ -- region 3
     refine ro rfl rfl (OpOk.step (ok_moveb (c := false) (.inr rfl) rfl)) ?_
     refine ro_nil ?_
     refine keepK hK8 [4] (by dsimp) (by dsimp) ?_
     refine T.ret (hQ _ _ _ rfl ?_).1 -- ret 4
     exact by (rw [decide_eq_false (fun h => by obtain ⟨⟨h1, h2⟩, ⟨h3, h4⟩, ⟨h5, h6⟩, h7, h8, h9, h10, h11⟩ := h; omega)]; exact TEnt.fin [] (by decide) (by simp) rfl ⟨rfl, trivial⟩)
    ·(try simp only [dE] at hb)
     refine ro rfl rfl (OpOk.step (ok_fieldAddr rfl ti_api_Zone rfl rfl ti_int (by decide) rfl)) ?_
     refine ro rfl rfl (OpOk.step (ok_load rfl ti_int rfl rfl)) ?_
     refine ro rfl rfl (OpOk.step (ok_binOp rfl ti_int rfl)) ?_
     refine ro rfl rfl (OpOk.step (ok_pick rfl rfl)) ?_
     refine ro_case rfl rfl (OpOk.step (ok_moveb (.inl rfl) rfl)) (fun hb => ?_) (fun hb => ?_)
     ·(try simp only [dE] at hb)
      refine ro_skip rfl rfl ?_
      refine ro_skip rfl rfl ?_
      refine ro_skip rfl rfl ?_
      refine ro_skip rfl rfl ?_
      refine ro rfl rfl (OpOk.step (ok_pickb (t := true) (d := true) rfl rfl rfl)) ?_
      refine ro rfl rfl (OpOk.step (ok_moveb (c := true) (.inl rfl) rfl)) ?_
      refine ro_skip rfl rfl ?_
      refine ro_skip rfl rfl ?_
      refine ro_skip rfl rfl ?_
      refine ro_skip rfl rfl ?_
      refine ro rfl rfl (OpOk.step (ok_pickb (t := true) (d := true) rfl rfl rfl)) ?_
      refine ro_nil ?_
      refine keepK hK4 [2, 3, 5, 50] (by dsimp) (by dsimp) ?_
      refine T.cond_true rfl ?_
      refine T.seq fun K9 hK9 => ?_
      refine T.region ?_ -- region 3
      refine ro rfl rfl (OpOk.step (ok_moveb (c := false) (.inr rfl) rfl)) ?_
      refine ro_nil ?_
      refine keepK hK9 [4] (by dsimp) (by dsimp) ?_
      refine T.ret (hQ _ _ _ rfl ?_).1 -- ret 5
      exact by (rw [decide_eq_false (fun h => by obtain ⟨⟨h1, h2⟩, ⟨h3, h4⟩, ⟨h5, h6⟩, h7, h8, h9, h10, h11⟩ := h; omega)]; exact TEnt.fin [] (by decide) (by simp) rfl ⟨rfl, trivial⟩)
     ·(try simp only [dE] at hb)
      refine ro rfl rfl (OpOk.step (ok_fieldAddr rfl ti_api_Zone rfl rfl ti_int (by decide) rfl)) ?_
      refine ro rfl rfl (OpOk.step (ok_load rfl ti_int rfl rfl)) ?_
      refine ro rfl rfl (OpOk.step (ok_move (.inl rfl))) ?_
      refine ro rfl rfl (OpOk.step (ok_binOp rfl ti_int rfl)) ?_
      refine ro rfl rfl (OpOk.step (ok_pick rfl rfl)) ?_
      refine ro_case rfl rfl (OpOk.step (ok_moveb (.inl rfl) rfl)) (fun hb => ?_) (fun hb => ?_)
      ·(try simp only [dE] at hb)
       refine ro_skip rfl rfl ?_
       refine ro_skip rfl rfl ?_
       refine ro_skip rfl rfl ?_
       refine ro_skip rfl rfl ?_
       refine ro rfl rfl (OpOk.step (ok_pickb (t := true) (d := true) rfl rfl rfl)) ?_
       refine ro_nil ?_
       refine keepK hK4 [2, 3, 5, 50] (by dsimp) (by dsimp) ?_
       refine T.cond_true rfl ?_
       refine T.seq fun K10 hK10 => ?_
       refine T.region ?_ -- region 3
       refine ro rfl rfl (OpOk.step (ok_moveb (c := false) (.inr rfl) rfl)) ?_
       refine ro_nil ?_
       refine keepK hK10 [4] (by dsimp) (by dsimp) ?_
       refine T.ret (hQ _ _ _ rfl ?_).1 -- ret 6
       exact by (rw [decide_eq_false (fun h => by obtain ⟨⟨h1, h2⟩, ⟨h3, h4⟩, ⟨h5, h6⟩, h7, h8, h9, h10, h11⟩ := h; omega)]; exact TEnt.fin [] (by decide) (by simp) rfl ⟨rfl, trivial⟩)
      ·(try simp only [dE] at hb)
       refine ro rfl rfl (OpOk.step (ok_fieldAddr rfl ti_api_Zone rfl rfl ti_Lapi_Par (by decide) rfl)) ?_
       refine ro rfl rfl (OpOk.step (ok_load rfl ti_Lapi_Par rfl rfl)) ?_
       refine ro rfl rfl (OpOk.step (ok_len' rfl rfl ti_Lapi_Par rfl (by first | exact ints_length _ _ | exact rowsA_length _ _ | exact Cms_len _ | exact mapLen _ | rfl))) ?_
       refine ro rfl rfl (OpOk.step (ok_binOp rfl ti_int rfl)) ?_
       refine ro rfl rfl (OpOk.step (ok_pick rfl rfl)) ?_
       refine ro_nil ?_
       refine keepK hK4 [2, 3, 5, 50] (by dsimp) (by dsimp) ?_
       refine T.cond rfl (fun hc => ?_) (fun hc => ?_) -- cond 1
       ·(try simp only [dE] at hc)
        refine T.seq fun K11 hK11 => ?_
        refine T.region ?_ -- region 3
        refine ro rfl rfl (OpOk.step (ok_moveb (c := false) (.inr rfl) rfl)) ?_
        refine ro_nil ?_
        refine keepK hK11 [4] (by dsimp) (by dsimp) ?_
        refine T.ret (hQ _ _ _ rfl ?_).1 -- ret 7
        exact by (rw [decide_eq_false (fun h => by obtain ⟨⟨h1, h2⟩, ⟨h3, h4⟩, ⟨h5, h6⟩, h7, h8, h9, h10, h11⟩ := h; rw [Prs_len] at *; omega)]; exact TEnt.fin [] (by decide) (by simp) rfl ⟨rfl, trivial⟩)
       ·(try simp only [dE] at hc)
        try rw [Prs_len] at hc
        have h17 : (0 ≤ z.gen ∧ z.gen ≤ 1099511627776) ∧ (-1 ≤ z.slot ∧ z.slot < slotsC s.c) ∧ (0 ≤ z.w ∧ z.w ≤ sizeC s.c) ∧ z.pars.length ≤ 2 := by omega
        refine T.skip ?_
        refine keepK hK3 [2, 3, 5] (by dsimp) (by dsimp) ?_
        refine T.seq fun K12 hK12 => ?_
        refine T.seq fun K13 hK13 => ?_
        refine T.join hK13 [(2, .ref 0 0 0), (3, .ref 1 0 0), (5, .int (sizeC s.c)), (87, .b (decide (¬ Q4 (decide (2 ∈ s.st)) z)))] [some (StB s), some (ZnB z)] (fun hJ14 => ?_) ?_
        ·
         refine T.region ?_ -- region 4
         refine ro rfl rfl (OpOk.step (ok_fieldAddr rfl ti_api_Zone rfl rfl ti_int (by decide) rfl)) ?_
         refine ro rfl rfl (OpOk.step (ok_load rfl ti_int rfl rfl)) ?_
         refine ro rfl rfl (OpOk.step (ok_binOp rfl ti_int rfl)) ?_
         refine ro_case rfl rfl (OpOk.step (ok_moveb (.inl rfl) rfl)) (fun hb => ?_) (fun hb => ?_)
         ·(try simp only [dE] at hb)
          refine ro rfl rfl (OpOk.step (ok_fieldAddr rfl ti_api_Zone rfl rfl ti_int (by decide) rfl)) ?_
          refine ro rfl rfl (OpOk.step (ok_load rfl ti_int rfl rfl)) ?_
          refine ro rfl rfl (OpOk.step (ok_binOp rfl ti_int rfl)) ?_
          refine ro_case rfl rfl (OpOk.step (ok_moveb (.inl rfl) rfl)) (fun hb => ?_) (fun hb => ?_)
          ·(try simp only [dE] at hb)
           refine ro_skip rfl rfl ?_
           refine ro_skip rfl rfl ?_
           refine ro rfl rfl (OpOk.step (ok_pickb (t := true) (d := true) rfl rfl rfl)) ?_
           refine ro rfl rfl (OpOk.step (ok_moveb (c := true) (.inl rfl) rfl)) ?_
           refine ro_skip rfl rfl ?_
           refine ro_skip rfl rfl ?_
           refine ro_skip rfl rfl ?_
           refine ro_skip rfl rfl ?_
           refine ro rfl rfl (OpOk.step (ok_pickb (t := true) (d := true) rfl rfl rfl)) ?_
           refine ro rfl rfl (OpOk.step (ok_pickb (t := true) (d := true) rfl rfl rfl)) ?_
           refine ro rfl rfl (OpOk.step (ok_moveb (c := true) (.inl rfl) rfl)) ?_
           refine ro_skip rfl rfl ?_
           refine ro_skip rfl rfl ?_
           refine ro_skip rfl rfl ?_
           refine ro_skip rfl rfl ?_
           refine ro_skip rfl rfl ?_
           refine ro_skip rfl rfl ?_
           refine ro_skip rfl rfl ?_
           refine ro_skip rfl rfl ?_
           refine ro rfl rfl (OpOk.step (ok_pickb (t := true) (d := true) rfl rfl rfl)) ?_
           refine ro rfl rfl (OpOk.step (ok_moveb (c := true) (.inl rfl) rfl)) ?_
           refine ro_skip rfl rfl ?_
           refine ro_skip rfl rfl ?_
           refine ro_skip rfl rfl ?_
           refine ro_skip rfl rfl ?_
           refine ro_skip rfl rfl ?_
           refine ro_skip rfl rfl ?_
           refine ro_skip rfl rfl ?_
           refine ro rfl rfl (OpOk.step (ok_pickb (t := true) (d := true) rfl rfl rfl)) ?_
           refine ro_nil ?_
           exact hJ14 _ _ (TEnt.toH rfl ⟨rfl, rfl, rfl, by first | exact congrArg AV.b (decide_eq_true (show ¬ Q4 _ _ by unfold Q4; simp_all)).symm | exact congrArg AV.b (decide_eq_false (show ¬ ¬ Q4 _ _ by unfold Q4; simp_all)).symm | exact congrArg AV.b (show (!decide (2 ∈ s.st)) = decide (¬ Q4 _ _) by unfold Q4; simp_all) | exact congrArg AV.b (show z.whole = decide (¬ Q4 _ _) by unfold Q4; cases z.whole <;> simp_all), trivial⟩)
          ·(try simp only [dE] at hb)
           refine ro rfl rfl (OpOk.step (ok_fieldAddr rfl ti_api_Zone rfl rfl ti_bool (by decide) rfl)) ?_
           refine ro rfl rfl (OpOk.step (ok_load rfl ti_bool rfl rfl)) ?_
           refine ro rfl rfl (OpOk.step (ok_pick rfl rfl)) ?_
           refine ro_case rfl rfl (OpOk.step (ok_moveb (.inl rfl) rfl)) (fun hb => ?_) (fun hb => ?_)
           ·(try simp only [dE] at hb)
            refine ro_skip rfl rfl ?_
            refine ro_skip rfl rfl ?_
            refine ro_skip rfl rfl ?_
            refine ro_skip rfl rfl ?_
            refine ro rfl rfl (OpOk.step (ok_pickb (t := true) (d := true) rfl rfl rfl)) ?_
            refine ro rfl rfl (OpOk.step (ok_pickb (t := true) (d := true) rfl rfl rfl)) ?_
            refine ro rfl rfl (OpOk.step (ok_moveb (c := true) (.inl rfl) rfl)) ?_
            refine ro_skip rfl rfl ?_
            refine ro_skip rfl rfl ?_
            refine ro_skip rfl rfl ?_
            refine ro_skip rfl rfl ?_
            refine ro_skip rfl rfl ?_
            refine ro_skip rfl rfl ?_
            refine ro_skip rfl rfl ?_
            refine ro_skip rfl rfl ?_
            refine ro rfl rfl (OpOk.step (ok_pickb (t := true) (d := true) rfl rfl rfl)) ?_
            refine ro rfl rfl (OpOk.step (ok_moveb (c := true) (.inl rfl) rfl)) ?_
            refine ro_skip rfl rfl ?_
            refine ro_skip rfl rfl ?_
            refine ro_skip rfl rfl ?_
            refine ro_skip rfl rfl ?_
            refine ro_skip rfl rfl ?_
            refine ro_skip rfl rfl ?_
            refine ro_skip rfl rfl ?_
            refine ro rfl rfl (OpOk.step (ok_pickb (t := true) (d := true) rfl rfl rfl)) ?_
            refine ro_nil ?_
            exact hJ14 _ _ (TEnt.toH rfl ⟨rfl, rfl, rfl, by first | exact congrArg AV.b (decide_eq_true (show ¬ Q4 _ _ by unfold Q4; simp_all)).symm | exact congrArg AV.b (decide_eq_false (show ¬ ¬ Q4 _ _ by unfold Q4; simp_all)).symm | exact congrArg AV.b (show (!decide (2 ∈ s.st)) = decide (¬ Q4 _ _) by unfold Q4; simp_all) | exact congrArg AV.b (show z.whole = decide (¬ Q4 _ _) by unfold Q4; cases z.whole <;> simp_all), trivial⟩)
           ·(try simp only [dE] at hb)
            refine ro rfl rfl (OpOk.step (ok_fieldAddr rfl ti_api_Zone rfl rfl ti_Lapi_Par (by decide) rfl)) ?_
            refine ro rfl rfl (OpOk.step (ok_load rfl ti_Lapi_Par rfl rfl)) ?_
            refine ro rfl rfl (OpOk.step (ok_len' rfl rfl ti_Lapi_Par rfl (by first | exact ints_length _ _ | exact rowsA_length _ _ | exact Cms_len _ | exact mapLen _ | rfl))) ?_
            refine ro rfl rfl (OpOk.step (ok_binOp rfl ti_int rfl)) ?_
            refine ro rfl rfl (OpOk.step (ok_pick rfl rfl)) ?_
            refine ro rfl rfl (OpOk.step (ok_pick rfl rfl)) ?_
            refine ro_case rfl rfl (OpOk.step (ok_moveb (.inl rfl) rfl)) (fun hb => ?_) (fun hb => ?_)
            ·(try simp only [dE] at hb)
             refine ro_skip rfl rfl ?_
             refine ro_skip rfl rfl ?_
             refine ro_skip rfl rfl ?_
             refine ro_skip rfl rfl ?_
             refine ro_skip rfl rfl ?_
             refine ro_skip rfl rfl ?_
             refine ro_skip rfl rfl ?_
             refine ro_skip rfl rfl ?_
             refine ro rfl rfl (OpOk.step (ok_pickb (t := true) (d := true) rfl rfl rfl)) ?_
             refine ro rfl rfl (OpOk.step (ok_moveb (c := true) (.inl rfl) rfl)) ?_
             refine ro_skip rfl rfl ?_
             refine ro_skip rfl rfl ?_
             refine ro_skip rfl rfl ?_
             refine ro_skip rfl rfl ?_
             refine ro_skip rfl rfl ?_
             refine ro_skip rfl rfl ?_
             refine ro_skip rfl rfl ?_
             refine ro rfl rfl (OpOk.step (ok_pickb (t := true) (d := true) rfl rfl rfl)) ?_
             refine ro_nil ?_
             exact hJ14 _ _ (TEnt.toH rfl ⟨rfl, rfl, rfl, by first | exact congrArg AV.b (decide_eq_true (show ¬ Q4 _ _ by unfold Q4; simp_all)).symm | exact congrArg AV.b (decide_eq_false (show ¬ ¬ Q4 _ _ by unfold Q4; simp_all)).symm | exact congrArg AV.b (show (!decide (2 ∈ s.st)) = decide (¬ Q4 _ _) by unfold Q4; simp_all) | exact congrArg AV.b (show z.whole = decide (¬ Q4 _ _) by unfold Q4; cases z.whole <;> simp_all), trivial⟩)
            ·(try simp only [dE] at hb)
             refine ro rfl rfl (OpOk.step (ok_fieldAddr rfl ti_api_Zone rfl rfl ti_bool (by decide) rfl)) ?_
             refine ro rfl rfl (OpOk.step (ok_load rfl ti_bool rfl rfl)) ?_
             refine ro rfl rfl (OpOk.step (ok_unOp rfl rfl)) ?_
             refine ro_case rfl rfl (OpOk.step (ok_moveb (.inl rfl) rfl)) (fun hb => ?_) (fun hb => ?_)
             ·(try simp only [dE] at hb)
              refine ro rfl rfl (OpOk.step (ok_fieldAddr rfl ti_api_Zone rfl rfl ti_int (by decide) rfl)) ?_
              refine ro rfl rfl (OpOk.step (ok_load rfl ti_int rfl rfl)) ?_
              refine ro rfl rfl (OpOk.step (ok_binOp rfl ti_int rfl)) ?_
              refine ro rfl rfl (OpOk.step (ok_pick rfl rfl)) ?_
              refine ro rfl rfl (OpOk.step (ok_pick rfl rfl)) ?_
              refine ro_case rfl rfl (OpOk.step (ok_moveb (.inl rfl) rfl)) (fun hb => ?_) (fun hb => ?_)
              ·(try simp only [dE] at hb)
               refine ro_skip rfl rfl ?_
               refine ro_skip rfl rfl ?_
               refine ro_skip rfl rfl ?_
               refine ro_skip rfl rfl ?_
               refine ro_skip rfl rfl ?_
               refine ro_skip rfl rfl ?_
               refine ro_skip rfl rfl ?_
               refine ro rfl rfl (OpOk.step (ok_pickb (t := true) (d := true) rfl rfl rfl)) ?_
               refine ro_nil ?_
               exact hJ14 _ _ (TEnt.toH rfl ⟨rfl, rfl, rfl, by first | exact congrArg AV.b (decide_eq_true (show ¬ Q4 _ _ by unfold Q4; simp_all)).symm | exact congrArg AV.b (decide_eq_false (show ¬ ¬ Q4 _ _ by unfold Q4; simp_all)).symm | exact congrArg AV.b (show (!decide (2 ∈ s.st)) = decide (¬ Q4 _ _) by unfold Q4; simp_all) | exact congrArg AV.b (show z.whole = decide (¬ Q4 _ _) by unfold Q4; cases z.whole <;> simp_all), trivial⟩)
              ·(try simp only [dE] at hb)
               refine ro rfl rfl (OpOk.step (ok_fieldAddr rfl ti_api_Zone rfl rfl ti_bool (by decide) rfl)) ?_
               refine ro rfl rfl (OpOk.step (ok_load rfl ti_bool rfl rfl)) ?_
               refine ro_case rfl rfl (OpOk.step (ok_moveb (.inl rfl) rfl)) (fun hb => ?_) (fun hb => ?_)
               ·(try simp only [dE] at hb)
                refine ro rfl rfl (OpOk.step (ok_load rfl ti_api_State rfl rfl)) ?_
                refine ro rfl rfl (ok_call rfl rfl rfl ((rreb_ok s hn).plain (by simp [renL, AV.ren, StC_take, StC_ren]) rfl)) ?_
                refine ro rfl rfl (OpOk.step (ok_unOp rfl rfl)) ?_
                refine ro rfl rfl (OpOk.step (ok_pick rfl rfl)) ?_
                refine ro rfl rfl (OpOk.step (ok_pick rfl rfl)) ?_
                refine ro_nil ?_
                exact hJ14 _ _ (TEnt.toH rfl ⟨rfl, rfl, rfl, by first | exact congrArg AV.b (decide_eq_true (show ¬ Q4 _ _ by unfold Q4; simp_all)).symm | exact congrArg AV.b (decide_eq_false (show ¬ ¬ Q4 _ _ by unfold Q4; simp_all)).symm | exact congrArg AV.b (show (!decide (2 ∈ s.st)) = decide (¬ Q4 _ _) by unfold Q4; simp_all) | exact congrArg AV.b (show z.whole = decide (¬ Q4 _ _) by unfold Q4; cases z.whole <;> simp_all), trivial⟩)
               ·(try simp only [dE] at hb)
                refine ro_skip rfl rfl ?_
                refine ro_skip rfl rfl ?_
                refine ro_skip rfl rfl ?_
                refine ro rfl rfl (OpOk.step (ok_pickb (t := false) (d := false) rfl rfl rfl)) ?_
                refine ro rfl rfl (OpOk.step (ok_pickb (t := false) (d := false) rfl rfl rfl)) ?_
                refine ro_nil ?_
                exact hJ14 _ _ (TEnt.toH rfl ⟨rfl, rfl, rfl, by first | exact congrArg AV.b (decide_eq_true (show ¬ Q4 _ _ by unfold Q4; simp_all)).symm | exact congrArg AV.b (decide_eq_false (show ¬ ¬ Q4 _ _ by unfold Q4; simp_all)).symm | exact congrArg AV.b (show (!decide (2 ∈ s.st)) = decide (¬ Q4 _ _) by unfold Q4; simp_all) | exact congrArg AV.b (show z.whole = decide (¬ Q4 _ _) by unfold Q4; cases z.whole <;> simp_all), trivial⟩)
             ·(try simp only [dE] at hb)
              refine ro_skip rfl rfl ?_
              refine ro_skip rfl rfl ?_
              refine ro_skip rfl rfl ?_
              refine ro rfl rfl (OpOk.step (ok_pickb (t := false) (d := false) rfl rfl rfl)) ?_
              refine ro rfl rfl (OpOk.step (ok_pickb (t := false) (d := false) rfl rfl rfl)) ?_
              refine ro rfl rfl (OpOk.step (ok_moveb (c := false) (.inl rfl) rfl)) ?_
              refine ro rfl rfl (OpOk.step (ok_fieldAddr rfl ti_api_Zone rfl rfl ti_bool (by decide) rfl)) ?_
              refine ro rfl rfl (OpOk.step (ok_load rfl ti_bool rfl rfl)) ?_
              refine ro_case rfl rfl (OpOk.step (ok_moveb (.inl rfl) rfl)) (fun hb => ?_) (fun hb => ?_)
              ·(try simp only [dE] at hb)
               refine ro rfl rfl (OpOk.step (ok_load rfl ti_api_State rfl rfl)) ?_
               refine ro rfl rfl (ok_call rfl rfl rfl ((rreb_ok s hn).plain (by simp [renL, AV.ren, StC_take, StC_ren]) rfl)) ?_
               refine ro rfl rfl (OpOk.step (ok_unOp rfl rfl)) ?_
               refine ro rfl rfl (OpOk.step (ok_pick rfl rfl)) ?_
               refine ro rfl rfl (OpOk.step (ok_pick rfl rfl)) ?_
               refine ro_nil ?_
               exact hJ14 _ _ (TEnt.toH rfl ⟨rfl, rfl, rfl, by first | exact congrArg AV.b (decide_eq_true (show ¬ Q4 _ _ by unfold Q4; simp_all)).symm | exact congrArg AV.b (decide_eq_false (show ¬ ¬ Q4 _ _ by unfold Q4; simp_all)).symm | exact congrArg AV.b (show (!decide (2 ∈ s.st)) = decide (¬ Q4 _ _) by unfold Q4; simp_all) | exact congrArg AV.b (show z.whole = decide (¬ Q4 _ _) by unfold Q4; cases z.whole <;> simp_all), trivial⟩)
              ·(try simp only [dE] at hb)
               refine ro_skip rfl rfl ?_
               refine ro_skip rfl rfl ?_
               refine ro_skip rfl rfl ?_
               refine ro rfl rfl (OpOk.step (ok_pickb (t := false) (d := false) rfl rfl rfl)) ?_
               refine ro rfl rfl (OpOk.step (ok_pickb (t := false) (d := false) rfl rfl rfl)) ?_
               refine ro_nil ?_
               exact hJ14 _ _ (TEnt.toH rfl ⟨rfl, rfl, rfl, by first | exact congrArg AV.b (decide_eq_true (show ¬ Q4 _ _ by unfold Q4; simp_all)).symm | exact congrArg AV.b (decide_eq_false (show ¬ ¬ Q4 _ _ by unfold Q4; simp_all)).symm | exact congrArg AV.b (show (!decide (2 ∈ s.st)) = decide (¬ Q4 _ _) by unfold Q4; simp_all) | exact congrArg AV.b (show z.whole = decide (¬ Q4 _ _) by unfold Q4; cases z.whole <;> simp_all), trivial⟩)
         ·(try simp only [dE] at hb)
          refine ro_skip rfl rfl ?_
          refine ro_skip rfl rfl ?_
          refine ro_skip rfl rfl ?_
          refine ro_skip rfl rfl ?_
          refine ro_skip rfl rfl ?_
          refine ro_skip rfl rfl ?_
          refine ro_skip rfl rfl ?_
          refine ro_skip rfl rfl ?_
          refine ro_skip rfl rfl ?_
          refine ro_skip rfl rfl ?_
          refine ro_skip rfl rfl ?_
          refine ro_skip rfl rfl ?_
          refine ro_skip rfl rfl ?_
          refine ro rfl rfl (OpOk.step (ok_pickb (t := false) (d := false) rfl rfl rfl)) ?_
          refine ro rfl rfl (OpOk.step (ok_moveb (c := false) (.inl rfl) rfl)) ?_
          refine ro rfl rfl (OpOk.step (ok_fieldAddr rfl ti_api_Zone rfl rfl ti_bool (by decide) rfl)) ?_
          refine ro rfl rfl (OpOk.step (ok_load rfl ti_bool rfl rfl)) ?_
          refine ro rfl rfl (OpOk.step (ok_unOp rfl rfl)) ?_
          refine ro_case rfl rfl (OpOk.step (ok_moveb (.inl rfl) rfl)) (fun hb => ?_) (fun hb => ?_)
          ·(try simp only [dE] at hb)
           refine ro rfl rfl (OpOk.step (ok_fieldAddr rfl ti_api_Zone rfl rfl ti_int (by decide) rfl)) ?_
           refine ro rfl rfl (OpOk.step (ok_load rfl ti_int rfl rfl)) ?_
           refine ro rfl rfl (OpOk.step (ok_binOp rfl ti_int rfl)) ?_
           refine ro rfl rfl (OpOk.step (ok_pick rfl rfl)) ?_
           refine ro rfl rfl (OpOk.step (ok_pick rfl rfl)) ?_
           refine ro_case rfl rfl (OpOk.step (ok_moveb (.inl rfl) rfl)) (fun hb => ?_) (fun hb => ?_)
           ·(try simp only [dE] at hb)
            refine ro_skip rfl rfl ?_
            refine ro_skip rfl rfl ?_
            refine ro_skip rfl rfl ?_
            refine ro_skip rfl rfl ?_
            refine ro_skip rfl rfl ?_
            refine ro_skip rfl rfl ?_
            refine ro_skip rfl rfl ?_
            refine ro rfl rfl (OpOk.step (ok_pickb (t := true) (d := true) rfl rfl rfl)) ?_
            refine ro_nil ?_
            exact hJ14 _ _ (TEnt.toH rfl ⟨rfl, rfl, rfl, by first | exact congrArg AV.b (decide_eq_true (show ¬ Q4 _ _ by unfold Q4; simp_all)).symm | exact congrArg AV.b (decide_eq_false (show ¬ ¬ Q4 _ _ by unfold Q4; simp_all)).symm | exact congrArg AV.b (show (!decide (2 ∈ s.st)) = decide (¬ Q4 _ _) by unfold Q4; simp_all) | exact congrArg AV.b (show z.whole = decide (¬ Q4 _ _) by unfold Q4; cases z.whole <;> simp_all), trivial⟩)
           ·(try simp only [dE] at hb)
            refine ro rfl rfl (OpOk.step (ok_fieldAddr rfl ti_api_Zone rfl rfl ti_bool (by decide) rfl)) ?_
            refine ro rfl rfl (OpOk.step (ok_load rfl ti_bool rfl rfl)) ?_
            refine ro_case rfl rfl (OpOk.step (ok_moveb (.inl rfl) rfl)) (fun hb => ?_) (fun hb => ?_)
            ·(try simp only [dE] at hb)
             refine ro rfl rfl (OpOk.step (ok_load rfl ti_api_State rfl rfl)) ?_
             refine ro rfl rfl (ok_call rfl rfl rfl ((rreb_ok s hn).plain (by simp [renL, AV.ren, StC_take, StC_ren]) rfl)) ?_
             refine ro rfl rfl (OpOk.step (ok_unOp rfl rfl)) ?_
             refine ro rfl rfl (OpOk.step (ok_pick rfl rfl)) ?_
             refine ro rfl rfl (OpOk.step (ok_pick rfl rfl)) ?_
             refine ro_nil ?_
             exact hJ14 _ _ (TEnt.toH rfl ⟨rfl, rfl, rfl, by first | exact congrArg AV.b (decide_eq_true (show ¬ Q4 _ _ by unfold Q4; simp_all)).symm | exact congrArg AV.b (decide_eq_false (show ¬ ¬ Q4 _ _ by unfold Q4; simp_all)).symm | exact congrArg AV.b (show (!decide (2 ∈ s.st)) = decide (¬ Q4 _ _) by unfold Q4; simp_all) | exact congrArg AV.b (show z.whole = decide (¬ Q4 _ _) by unfold Q4; cases z.whole <;> simp_all), trivial⟩)
            ·(try simp only [dE] at hb)
             refine ro_skip rfl rfl ?_
             refine ro_skip rfl rfl ?_
             refine ro_skip rfl rfl ?_
             refine ro rfl rfl (OpOk.step (ok_pickb (t := false) (d := false) rfl rfl rfl)) ?_
             refine ro rfl rfl (OpOk.step (ok_pickb (t := false) (d := false) rfl rfl rfl)) ?_
             refine ro_nil ?_
             exact hJ14 _ _ (TEnt.toH rfl ⟨rfl, rfl, rfl, by first | exact congrArg AV.b (decide_eq_true (show ¬ Q4 _ _ by unfold Q4; simp_all)).symm | exact congrArg AV.b (decide_eq_false (show ¬ ¬ Q4 _ _ by unfold Q4; simp_all)).symm | exact congrArg AV.b (show (!decide (2 ∈ s.st)) = decide (¬ Q4 _ _) by unfold Q4; simp_all) | exact congrArg AV.b (show z.whole = decide (¬ Q4 _ _) by unfold Q4; cases z.whole <;> simp_all), trivial⟩)
          ·(try simp only [dE] at hb)
           refine ro_skip rfl rfl ?_
           refine ro_skip rfl rfl ?_
           refine ro_skip rfl rfl ?_
           refine ro rfl rfl (OpOk.step (ok_pickb (t := false) (d := false) rfl rfl rfl)) ?_
           refine ro rfl rfl (OpOk.step (ok_pickb (t := false) (d := false) rfl rfl rfl)) ?_
           refine ro rfl rfl (OpOk.step (ok_moveb (c := false) (.inl rfl) rfl)) ?_
           refine ro rfl rfl (OpOk.step (ok_fieldAddr rfl ti_api_Zone rfl rfl ti_bool (by decide) rfl)) ?_
           refine ro rfl rfl (OpOk.step (ok_load rfl ti_bool rfl rfl)) ?_
           refine ro_case rfl rfl (OpOk.step (ok_moveb (.inl rfl) rfl)) (fun hb => ?_) (fun hb => ?_)
           ·(try simp only [dE] at hb)
            refine ro rfl rfl (OpOk.step (ok_load rfl ti_api_State rfl rfl)) ?_
            refine ro rfl rfl (ok_call rfl rfl rfl ((rreb_ok s hn).plain (by simp [renL, AV.ren, StC_take, StC_ren]) rfl)) ?_
            refine ro rfl rfl (OpOk.step (ok_unOp rfl rfl)) ?_
            refine ro rfl rfl (OpOk.step (ok_pick rfl rfl)) ?_
            refine ro rfl rfl (OpOk.step (ok_pick rfl rfl)) ?_
            refine ro_nil ?_
            exact hJ14 _ _ (TEnt.toH rfl ⟨rfl, rfl, rfl, by first | exact congrArg AV.b (decide_eq_true (show ¬ Q4 _ _ by unfold Q4; simp_all)).symm | exact congrArg AV.b (decide_eq_false (show ¬ ¬ Q4 _ _ by unfold Q4; simp_all)).symm | exact congrArg AV.b (show (!decide (2 ∈ s.st)) = decide (¬ Q4 _ _) by unfold Q4; simp_all) | exact congrArg AV.b (show z.whole = decide (¬ Q4 _ _) by unfold Q4; cases z.whole <;> simp_all), trivial⟩)
           ·(try simp only [dE] at hb)
            refine ro_skip rfl rfl ?_
            refine ro_skip rfl rfl ?_
            refine ro_skip rfl rfl ?_
            refine ro rfl rfl (OpOk.step (ok_pickb (t := false) (d := false) rfl rfl rfl)) ?_
            refine ro rfl rfl (OpOk.step (ok_pickb (t := false) (d := false) rfl rfl rfl)) ?_
            refine ro_nil ?_
            exact hJ14 _ _ (TEnt.toH rfl ⟨rfl, rfl, rfl, by first | exact congrArg AV.b (decide_eq_true (show ¬ Q4 _ _ by unfold Q4; simp_all)).symm | exact congrArg AV.b (decide_eq_false (show ¬ ¬ Q4 _ _ by unfold Q4; simp_all)).symm | exact congrArg AV.b (show (!decide (2 ∈ s.st)) = decide (¬ Q4 _ _) by unfold Q4; simp_all) | exact congrArg AV.b (show z.whole = decide (¬ Q4 _ _) by unfold Q4; cases z.whole <;> simp_all), trivial⟩)
        refine T.cond rfl (fun hc => ?_) (fun hc => ?_) -- cond 2
        ·(try simp only [dE] at hc)
         have hq4 : ¬ Q4 (decide (2 ∈ s.st)) z := by simpa using hc
         refine T.seq fun K15 hK15 => ?_
         refine T.region ?_ -- region 5
         refine ro rfl rfl (OpOk.step (ok_moveb (c := false) (.inr rfl) rfl)) ?_
         refine ro_nil ?_
         refine keepK hK15 [4] (by dsimp) (by dsimp) ?_
         refine T.ret (hQ _ _ _ rfl ?_).1 -- ret 8
         exact by (rw [decide_eq_false (RZ_no4 (by assumption))]; exact TEnt.fin [] (by decide) (by simp) rfl ⟨rfl, trivial⟩)
        ·(try simp only [dE] at hc)
         have hq4 : Q4 (decide (2 ∈ s.st)) z := by simpa using hc
         refine T.skip ?_
         refine keepK hK12 [2, 3, 5] (by dsimp) (by dsimp) ?_
         refine T.seq fun K16 hK16 => ?_
         refine T.seq fun K17 hK17 => ?_
         refine T.region ?_ -- region 6
         refine ro rfl rfl (OpOk.step (ok_move (.inr rfl))) ?_
         refine ro_nil ?_
         refine keepK hK17 [2, 3, 5, 7] (by dsimp) (by dsimp) ?_
         refine T.block ?_
         refine T.loopI (ι := Nat) (fun i => i ≤ z.pars.length ∧ ∀ p ∈ z.pars.take i, PG s.c p) (fun i => z.pars.length - i) (fun i => ([(2, .ref 0 0 0), (3, .ref 1 0 0), (5, .int (sizeC s.c)), (7, .int i)], [some (StB s), some (ZnB z)])) 0 ⟨Nat.zero_le _, fun y hy => by simp at hy⟩ (TEnt.toH rfl ⟨rfl, rfl, rfl, rfl, trivial⟩) (fun i hi => ?_) -- loop 1
         obtain ⟨hil, hall⟩ := hi
         refine T.seq fun K18 hK18 => ?_
         refine T.seq fun K19 hK19 => ?_
         refine T.region ?_ -- region 7
         refine ro rfl rfl (OpOk.step (ok_move (.inl rfl))) ?_
         refine ro rfl rfl (OpOk.step (ok_fieldAddr rfl ti_api_Zone rfl rfl ti_Lapi_Par (by decide) rfl)) ?_
         refine ro rfl rfl (OpOk.step (ok_load rfl ti_Lapi_Par rfl rfl)) ?_
         refine ro rfl rfl (OpOk.step (ok_len' rfl rfl ti_Lapi_Par rfl (by first | exact ints_length _ _ | exact rowsA_length _ _ | exact Cms_len _ | exact mapLen _ | rfl))) ?_
         refine ro rfl rfl (OpOk.step (ok_binOp rfl ti_int rfl)) ?_
         refine ro_nil ?_
         refine keepK hK19 [2, 3, 5, 7, 92] (by dsimp) (by dsimp) ?_
         refine T.cond rfl (fun hc => ?_) (fun hc => ?_) -- cond 3
         ·(try simp only [dE] at hc)
          rw [Prs_len] at hc
          obtain ⟨p, hp⟩ : ∃ p, z.pars[i]? = some p := ⟨_, List.getElem?_eq_getElem (by omega)⟩
          refine T.skip ?_
          refine keepK hK18 [2, 3, 5, 7] (by dsimp) (by dsimp) ?_
          refine T.seq fun K20 hK20 => ?_
          refine T.block ?_
          refine T.seq fun K21 hK21 => ?_
          refine T.drawH mixed [] ?_ -- region 9
          refine any_take 0 rfl (by first | rfl | decide +kernel) rfl (HeldL.refl _) (fun H' hH => OpOk.step (ok_fieldAddr rfl ti_api_Zone rfl rfl ti_Lapi_Par (by decide) rfl)) ?_
          refine any_take 1 rfl (by first | rfl | decide +kernel) rfl (HeldL.refl _) (fun H' hH => OpOk.step (ok_load rfl ti_Lapi_Par (locA_held hH rfl) rfl)) ?_
          refine any_take 2 rfl (by first | rfl | decide +kernel) rfl (HeldL.refl _) (fun H' hH => OpOk.step (ok_move (.inl rfl))) ?_
          refine any_take 3 rfl (by first | rfl | decide +kernel) rfl (HeldL.refl _) (fun H' hH => OpOk.step (by exact ok_index_map (F := PrC) rfl ti_Lapi_Par rfl ti_api_Par rfl rfl rfl hp (by simp [PrC]))) ?_
          refine any_take 4 rfl (by first | rfl | decide +kernel) rfl (HeldL.refl _) (fun H' hH => OpOk.step (ok_fieldAddr rfl ti_api_Par rfl rfl ti_int (by decide) rfl)) ?_
          refine any_take 5 rfl (by first | rfl | decide +kernel) rfl (HeldL.refl _) (fun H' hH => OpOk.step (ok_load rfl ti_int (locA_held hH rfl) rfl)) ?_
          refine any_take 6 rfl (by first | rfl | decide +kernel) rfl (HeldL.refl _) (fun H' hH => OpOk.step (ok_binOp rfl ti_int rfl)) ?_
          refine any_take_case 7 rfl (by first | rfl | decide +kernel) rfl (HeldL.refl _) (fun H' hH => OpOk.step (ok_moveb (.inl rfl) rfl)) (fun hb => ?_) (fun hb => ?_)
          ·(try simp only [dE] at hb)
           refine any_skip 8 rfl (by first | rfl | decide +kernel) rfl (HeldL.refl _) ?_
           refine any_skip 9 rfl (by first | rfl | decide +kernel) rfl (HeldL.refl _) ?_
           refine any_skip 10 rfl (by first | rfl | decide +kernel) rfl (HeldL.refl _) ?_
           refine any_skip 11 rfl (by first | rfl | decide +kernel) rfl (HeldL.refl _) ?_
           refine any_skip 12 rfl (by first | rfl | decide +kernel) rfl (HeldL.refl _) ?_
           refine any_skip 13 rfl (by first | rfl | decide +kernel) rfl (HeldL.refl _) ?_
           refine any_skip 14 rfl (by first | rfl | decide +kernel) rfl (HeldL.refl _) ?_
           refine any_skip 15 rfl (by first | rfl | decide +kernel) rfl (HeldL.refl _) ?_
           refine any_take 16 rfl (by first | rfl | decide +kernel) rfl (HeldL.refl _) (fun H' hH => OpOk.step (ok_pickb (t := true) (d := true) rfl rfl rfl)) ?_
           refine any_take 17 rfl (by first | rfl | decide +kernel) rfl (HeldL.refl _) (fun H' hH => OpOk.step (ok_moveb (c := true) (.inl rfl) rfl)) ?_
           refine any_skip 18 rfl (by first | rfl | decide +kernel) rfl (HeldL.refl _) ?_
           refine any_skip 19 rfl (by first | rfl | decide +kernel) rfl (HeldL.refl _) ?_
           refine any_skip 20 rfl (by first | rfl | decide +kernel) rfl (HeldL.refl _) ?_
           refine any_skip 21 rfl (by first | rfl | decide +kernel) rfl (HeldL.refl _) ?_
           refine any_skip 22 rfl (by first | rfl | decide +kernel) rfl (HeldL.refl _) ?_
           refine any_skip 23 rfl (by first | rfl | decide +kernel) rfl (HeldL.refl _) ?_
           refine any_skip 24 rfl (by first | rfl | decide +kernel) rfl (HeldL.refl _) ?_
           refine any_skip 25 rfl (by first | rfl | decide +kernel) rfl (HeldL.refl _) ?_
           refine any_skip 26 rfl (by first | rfl | decide +kernel) rfl (HeldL.refl _) ?_
           refine any_skip 27 rfl (by first | rfl | decide +kernel) rfl (HeldL.refl _) ?_
           refine any_skip 28 rfl (by first | rfl | decide +kernel) rfl (HeldL.refl _) ?_
           refine any_skip 29 rfl (by first | rfl | decide +kernel) rfl (HeldL.refl _) ?_
           refine any_skip 30 rfl (by first | rfl | decide +kernel) rfl (HeldL.refl _) ?_
           refine any_skip 31 rfl (by first | rfl | decide +kernel) rfl (HeldL.refl _) ?_
           refine any_skip 32 rfl (by first | rfl | decide +kernel) rfl (HeldL.refl _) ?_
           refine any_take 33 rfl (by first | rfl | decide +kernel) rfl (HeldL.refl _) (fun H' hH => OpOk.step (ok_pickb (t := true) (d := true) rfl rfl rfl)) ?_
           refine any_done rfl ?_
           refine keepK hK21 [2, 3, 5, 7, 128] (by dsimp) (by dsimp) ?_
           refine T.cond_true rfl ?_
           refine T.seq fun K22 hK22 => ?_
           refine T.region ?_ -- region 10
           refine ro rfl rfl (OpOk.step (ok_moveb (c := false) (.inr rfl) rfl)) ?_
           refine ro_nil ?_
           refine keepK hK22 [4] (by dsimp) (by dsimp) ?_
           refine T.ret (hQ _ _ _ rfl ?_).1 -- ret 9
           exact by (rw [decide_eq_false (fun h => by have h' := h.2.2.2.2.2.2.2 p (List.mem_of_getElem? hp); unfold PG at h'; omega)]; exact TEnt.fin [] (by decide) (by simp) rfl ⟨rfl, trivial⟩)
          ·(try simp only [dE] at hb)
           refine any_take 8 rfl (by first | rfl | decide +kernel) rfl (HeldL.refl _) (fun H' hH => OpOk.step (ok_fieldAddr rfl ti_api_Zone rfl rfl ti_Lapi_Par (by decide) rfl)) ?_
           refine any_take 9 rfl (by first | rfl | decide +kernel) rfl (HeldL.refl _) (fun H' hH => OpOk.step (ok_load rfl ti_Lapi_Par (locA_held hH rfl) rfl)) ?_
           refine any_take 10 rfl (by first | rfl | decide +kernel) rfl (HeldL.refl _) (fun H' hH => OpOk.step (ok_move (.inl rfl))) ?_
           refine any_take 11 rfl (by first | rfl | decide +kernel) rfl (HeldL.refl _) (fun H' hH => OpOk.step (by exact ok_index_map (F := PrC) rfl ti_Lapi_Par rfl ti_api_Par rfl rfl rfl hp (by simp [PrC]))) ?_
           refine any_take 12 rfl (by first | rfl | decide +kernel) rfl (HeldL.refl _) (fun H' hH => OpOk.step (ok_fieldAddr rfl ti_api_Par rfl rfl ti_int (by decide) rfl)) ?_
           refine any_take 13 rfl (by first | rfl | decide +kernel) rfl (HeldL.refl _) (fun H' hH => OpOk.step (ok_load rfl ti_int (locA_held hH rfl) rfl)) ?_
           refine any_take 14 rfl (by first | rfl | decide +kernel) rfl (HeldL.refl _) (fun H' hH => OpOk.step (ok_move (.inl rfl))) ?_
           refine any_take 15 rfl (by first | rfl | decide +kernel) rfl (HeldL.refl _) (fun H' hH => OpOk.step (ok_binOp rfl ti_int rfl)) ?_
           refine any_take 16 rfl (by first | rfl | decide +kernel) rfl (HeldL.refl _) (fun H' hH => OpOk.step (ok_pick rfl rfl)) ?_
           refine any_take_case 17 rfl (by first | rfl | decide +kernel) rfl (HeldL.refl _) (fun H' hH => OpOk.step (ok_moveb (.inl rfl) rfl)) (fun hb => ?_) (fun hb => ?_)
           ·(try simp only [dE] at hb)
            refine any_skip 18 rfl (by first | rfl | decide +kernel) rfl (HeldL.refl _) ?_
            refine any_skip 19 rfl (by first | rfl | decide +kernel) rfl (HeldL.refl _) ?_
            refine any_skip 20 rfl (by first | rfl | decide +kernel) rfl (HeldL.refl _) ?_
            refine any_skip 21 rfl (by first | rfl | decide +kernel) rfl (HeldL.refl _) ?_
            refine any_skip 22 rfl (by first | rfl | decide +kernel) rfl (HeldL.refl _) ?_
            refine any_skip 23 rfl (by first | rfl | decide +kernel) rfl (HeldL.refl _) ?_
            refine any_skip 24 rfl (by first | rfl | decide +kernel) rfl (HeldL.refl _) ?_
            refine any_skip 25 rfl (by first | rfl | decide +kernel) rfl (HeldL.refl _) ?_
            refine any_skip 26 rfl (by first | rfl | decide +kernel) rfl (HeldL.refl _) ?_
            refine any_skip 27 rfl (by first | rfl | decide +kernel) rfl (HeldL.refl _) ?_
            refine any_skip 28 rfl (by first | rfl | decide +kernel) rfl (HeldL.refl _) ?_
            refine any_skip 29 rfl (by first | rfl | decide +kernel) rfl (HeldL.refl _) ?_
            refine any_skip 30 rfl (by first | rfl | decide +kernel) rfl (HeldL.refl _) ?_
            refine any_skip 31 rfl (by first | rfl | decide +kernel) rfl (HeldL.refl _) ?_
            refine any_skip 32 rfl (by first | rfl | decide +kernel) rfl (HeldL.refl _) ?_
            refine any_take 33 rfl (by first | rfl | decide +kernel) rfl (HeldL.refl _) (fun H' hH => OpOk.step (ok_pickb (t := true) (d := true) rfl rfl rfl)) ?_
            refine any_done rfl ?_
            refine keepK hK21 [2, 3, 5, 7, 128] (by dsimp) (by dsimp) ?_
            refine T.cond_true rfl ?_
            refine T.seq fun K23 hK23 => ?_
            refine T.region ?_ -- region 10
            refine ro rfl rfl (OpOk.step (ok_moveb (c := false) (.inr rfl) rfl)) ?_
            refine ro_nil ?_
            refine keepK hK23 [4] (by dsimp) (by dsimp) ?_
            refine T.ret (hQ _ _ _ rfl ?_).1 -- ret 10
            exact by (rw [decide_eq_false (fun h => by have h' := h.2.2.2.2.2.2.2 p (List.mem_of_getElem? hp); unfold PG at h'; omega)]; exact TEnt.fin [] (by decide) (by simp) rfl ⟨rfl, trivial⟩)
           ·(try simp only [dE] at hb)
            refine any_take 18 rfl (by first | rfl | decide +kernel) rfl (HeldL.refl _) (fun H' hH => OpOk.step (ok_fieldAddr rfl ti_api_Zone rfl rfl ti_Lapi_Par (by decide) rfl)) ?_
            refine any_take 19 rfl (by first | rfl | decide +kernel) rfl (HeldL.refl _) (fun H' hH => OpOk.step (ok_load rfl ti_Lapi_Par (locA_held hH rfl) rfl)) ?_
            refine any_take 20 rfl (by first | rfl | decide +kernel) rfl (HeldL.refl _) (fun H' hH => OpOk.step (ok_move (.inl rfl))) ?_
            refine any_take 21 rfl (by first | rfl | decide +kernel) rfl (HeldL.refl _) (fun H' hH => OpOk.step (by exact ok_index_map (F := PrC) rfl ti_Lapi_Par rfl ti_api_Par rfl rfl rfl hp (by simp [PrC]))) ?_
            refine any_take 22 rfl (by first | rfl | decide +kernel) rfl (HeldL.refl _) (fun H' hH => OpOk.step (ok_fieldAddr rfl ti_api_Par rfl rfl ti_Luint8 (by decide) rfl)) ?_
            refine any_take 23 rfl (by first | rfl | decide +kernel) rfl (HeldL.refl _) (fun H' hH => OpOk.step (ok_load rfl ti_Luint8 (locA_held hH rfl) rfl)) ?_
            refine any_take 24 rfl (by first | rfl | decide +kernel) rfl (HeldL.refl _) (fun H' hH => OpOk.step (ok_len' rfl rfl ti_Luint8 rfl (by first | exact ints_length _ _ | exact rowsA_length _ _ | exact Cms_len _ | exact mapLen _ | rfl))) ?_
            refine any_take 25 rfl (by first | rfl | decide +kernel) rfl (HeldL.refl _) (fun H' hH => OpOk.step (ok_fieldAddr rfl ti_api_State rfl rfl ti_api_Conf (by decide) rfl)) ?_
            refine any_take 26 rfl (by first | rfl | decide +kernel) rfl (HeldL.refl _) (fun H' hH => OpOk.step (ok_fieldAddr rfl ti_api_Conf rfl rfl ti_int (by decide) rfl)) ?_
            refine any_take 27 rfl (by first | rfl | decide +kernel) rfl (HeldL.refl _) (fun H' hH => OpOk.step (ok_load rfl ti_int (locA_held hH rfl) rfl)) ?_
            refine any_take 28 rfl (by first | rfl | decide +kernel) rfl (HeldL.refl _) (fun H' hH => OpOk.step (ok_fieldAddr rfl ti_api_State rfl rfl ti_api_Conf (by decide) rfl)) ?_
            refine any_take 29 rfl (by first | rfl | decide +kernel) rfl (HeldL.refl _) (fun H' hH => OpOk.step (ok_fieldAddr rfl ti_api_Conf rfl rfl ti_int (by decide) rfl)) ?_
            refine any_take 30 rfl (by first | rfl | decide +kernel) rfl (HeldL.refl _) (fun H' hH => OpOk.step (ok_load rfl ti_int (locA_held hH rfl) rfl)) ?_
            refine any_take 31 rfl (by first | rfl | decide +kernel) rfl (HeldL.refl _) (fun H' hH => OpOk.step (ok_mul64 rfl ti_int rfl rfl (by omega) (by omega))) ?_
            refine any_take 32 rfl (by first | rfl | decide +kernel) rfl (HeldL.refl _) (fun H' hH => OpOk.step (ok_binOp rfl ti_int rfl)) ?_
            refine any_take 33 rfl (by first | rfl | decide +kernel) rfl (HeldL.refl _) (fun H' hH => OpOk.step (ok_pick rfl rfl)) ?_
            refine any_done rfl ?_
            refine keepK hK21 [2, 3, 5, 7, 128] (by dsimp) (by dsimp) ?_
            refine T.cond rfl (fun hc => ?_) (fun hc => ?_) -- cond 4
            ·(try simp only [dE] at hc)
             refine T.seq fun K24 hK24 => ?_
             refine T.region ?_ -- region 10
             refine ro rfl rfl (OpOk.step (ok_moveb (c := false) (.inr rfl) rfl)) ?_
             refine ro_nil ?_
             refine keepK hK24 [4] (by dsimp) (by dsimp) ?_
             refine T.ret (hQ _ _ _ rfl ?_).1 -- ret 11
             exact by (rw [decide_eq_false (fun h => by have h' := h.2.2.2.2.2.2.2 p (List.mem_of_getElem? hp); unfold PG at h'; omega)]; exact TEnt.fin [] (by decide) (by simp) rfl ⟨rfl, trivial⟩)
            ·(try simp only [dE] at hc)
             refine T.skip ?_
             refine keepK hK20 [2, 3, 5, 7] (by dsimp) (by dsimp) ?_
             refine T.region ?_ -- region 8
             refine ro rfl rfl (OpOk.step (ok_move (.inl rfl))) ?_
             refine ro rfl rfl (OpOk.step (ok_add64 rfl ti_int rfl rfl (by omega) (by omega))) ?_
             refine ro rfl rfl (OpOk.step (ok_move (.inr rfl))) ?_
             refine ro_nil ?_
             exact ⟨i + 1, ⟨by omega, all_snoc hp hall ⟨by omega, by omega⟩⟩, by omega, TEnt.toH rfl ⟨rfl, rfl, rfl, rfl, trivial⟩⟩
         ·(try simp only [dE] at hc)
          rw [Prs_len] at hc
          have hin : i = z.pars.length := by omega
          rw [hin, List.take_length] at hall
          refine T.exit ?_
          refine keepK hK16 [] (by dsimp) (by dsimp) ?_
          refine T.seq fun K25 hK25 => ?_
          refine T.region ?_ -- region 11
          refine ro rfl rfl (OpOk.step (ok_moveb (c := true) (.inr rfl) rfl)) ?_
          refine ro_nil ?_
          refine keepK hK25 [4] (by dsimp) (by dsimp) ?_
          refine T.ret (hQ _ _ _ rfl ?_).1 -- ret 12
          exact by (rw [decide_eq_true (RZ_iff h17 hq4 hall)]; exact TEnt.fin [] (by decide) (by simp) rfl ⟨rfl, trivial⟩)
end Go.Proofs.Ytlegolcbjjjofaa.AmF
