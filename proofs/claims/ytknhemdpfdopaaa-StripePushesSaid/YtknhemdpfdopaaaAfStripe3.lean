/- Walks over the abstract machine: the stripe that a zone is at. -/
import Derived.Test.YtknhemdpfdopaaaAfStripe2
namespace Go.Proofs.Ytknhemdpfdopaaa.AmF
open Go Go.AM
set_option maxRecDepth 100000
set_option linter.unusedSimpArgs false
set_option linter.unusedVariables false
attribute [local simp] tkeep tget tput ev cav argsTM pickA normT putA splice AV.cells ints_length rowsA_length fit_len zipx_len upd_len cs_len ovr_len
theorem Ent.tup' {H : Heap} {l l' : List AV} (h : EntL H l l') : Ent H (.tup l) (.tup l') := by
  intro g y hH hg hx
  simp only [Rel] at hx ⊢
  obtain ⟨cs, e, hl⟩ := hx
  exact ⟨cs, e, h g _ hH hg hl⟩
def c00 : Cf := ⟨0, 0, 0, 0, 0, 0, 0, 0, 0, 0, 0⟩
/-- Settings, how many blocks are written, those of the stripe. -/
def BufC (c : Cf) (w : Int) (bl : List (List Int)) : List AV := CC c ++ [.int w, .fz 1 (rowsA .u8 bl)]
theorem BufC_ren (ρ : Nat → Option Nat) (c : Cf) (w : Int) (bl : List (List Int)) : renL ρ (BufC c w bl) = BufC c w bl := by
  simp only [BufC, renL_map, List.map_append]
  rw [← renL_map, CC_ren]
  simp [AV.ren, renL_rowsA]
def BufB (c : Cf) (w : Int) (bl : List (List Int)) : Blk := ⟨13, true, [.agg (BufC c w bl)]⟩
theorem BufB_ren (ρ : Nat → Option Nat) (c : Cf) (w : Int) (bl : List (List Int)) : Blk.ren ρ (BufB c w bl) = BufB c w bl := by simp [BufB, Blk.ren, renL, AV.ren, BufC_ren]
theorem buf_nil (H : Heap) (c : Cf) (w : Int) : EntL H (CC c ++ [.int w, .v (.slice none 0 0)]) (BufC c w []) := EntL.append (EntL.refl _) (EntL.cons (Ent.refl _) (EntL.cons (Ent.nil 1) EntL.nil))
theorem BufN_ren (ρ : Nat → Option Nat) (c : Cf) (w : Int) : renL ρ (CC c ++ [.int w, .v (.slice none 0 0)]) = CC c ++ [.int w, .v (.slice none 0 0)] := by
  simp only [renL_map, List.map_append]
  rw [← renL_map, CC_ren]
  simp [AV.ren]
theorem buf_ent (H : Heap) (c : Cf) (w : Int) : Ent H (.agg (CC c ++ [.int w, .v (.slice none 0 0)])) (.agg (BufC c w [])) := Ent.agg (buf_nil H c w)
theorem Buf_take (c : Cf) (w : Int) (bl : List (List Int)) : (BufC c w bl).take 13 = BufC c w bl := rfl
theorem llclone_nil : CSpec Try.prog 91 [] [.fz 1 (rowsA .u8 [])] [some ⟨1, true, rowsA .u8 []⟩] (.sl 0 0 0) := by
  refine CSpec.body Try.func91 rfl rfl rfl rfl rfl fun Q hQ => ?_
  refine T.seq fun K1 hK1 => ?_
  refine T.region ?_ -- region 0
  refine ro rfl rfl (OpOk.step (ok_move (.inr rfl))) ?_
  refine ro_nil ?_
  refine keepK hK1 [0] (by dsimp) (by dsimp) ?_
  refine T.seq fun K2 hK2 => ?_
  refine T.seq fun K3 hK3 => ?_
  refine T.region ?_ -- region 1
  refine ro rfl rfl (OpOk.step (ok_move (.inl rfl))) ?_
  refine ro rfl rfl (OpOk.step (ok_nil_ub rfl ti_LLuint8 rfl (.inl rfl) rfl rfl)) ?_
  refine ro_nil ?_
  refine keepK hK3 [0, 4] (by dsimp) (by dsimp) ?_
  refine T.cond_ub rfl ?_ ?_
  · (try simp only [decide_eq_true_eq, decide_eq_false_iff_not, beq_iff_eq, beq_eq_false_iff_ne, bne_iff_ne, bne_eq_false_iff_eq, ne_eq, Bool.not_eq_true', Bool.not_eq_false'] at hc)
    refine T.seq fun K4 hK4 => ?_
    refine T.region ?_ -- region 2
    refine ro rfl rfl (OpOk.step (ok_move (.inr rfl))) ?_
    refine ro_nil ?_
    refine keepK hK4 [2] (by dsimp) (by dsimp) ?_
    refine T.ret (hQ _ _ _ rfl ?_).1 -- ret 1
    exact ((TEnt.empty 0 1 (by decide) (.inr rfl)).trans (TEnt.fin [0] (by decide) (by simp) rfl ⟨rfl, trivial⟩))
  · (try simp only [decide_eq_true_eq, decide_eq_false_iff_not, beq_iff_eq, beq_eq_false_iff_ne, bne_iff_ne, bne_eq_false_iff_eq, ne_eq, Bool.not_eq_true', Bool.not_eq_false'] at hc)
    refine T.skip ?_
    refine keepK hK2 [0] (by dsimp) (by dsimp) ?_
    refine T.seq fun K5 hK5 => ?_
    refine T.region ?_ -- region 3
    refine ro rfl rfl (OpOk.step (ok_buildSlice (n := 0) (ps := #[]) rfl ti_LLuint8 rfl ti_Luint8 (by decide) rfl rfl (by decide) rfl rfl rfl)) ?_
    refine ro rfl rfl (OpOk.step (ok_move (.inl rfl))) ?_
    refine ro rfl rfl (OpOk.step (by exact ok_append_map (fun l => .fz 1 (ints .u8 l)) (xs := []) (ys := []) rfl ti_LLuint8 rfl ti_Luint8 (by decide) (by decide) rfl ti_LLuint8 (by simp) rfl rfl rfl rfl rfl rfl rfl rfl rfl (by simp))) ?_
    refine ro rfl rfl (OpOk.step (ok_move (.inr rfl))) ?_
    refine ro_nil ?_
    refine keepK hK5 [2] (by dsimp) (by dsimp) ?_
    refine T.ret (hQ _ _ _ rfl ?_).1 -- ret 2
    exact TEnt.fin [1] (by decide) (by simp) rfl ⟨rfl, trivial⟩
theorem llclone_cons (l : List (List Int)) (hne : l ≠ []) (hl : l.length ≤ 1000000000) : CSpec Try.prog 91 [] [.fz 1 (rowsA .u8 l)] [some ⟨1, true, rowsA .u8 l⟩] (.sl 0 0 l.length) := by
  refine CSpec.body Try.func91 rfl rfl rfl rfl rfl fun Q hQ => ?_
  refine T.seq fun K1 hK1 => ?_
  refine T.region ?_ -- region 0
  refine ro rfl rfl (OpOk.step (ok_move (.inr rfl))) ?_
  refine ro_nil ?_
  refine keepK hK1 [0] (by dsimp) (by dsimp) ?_
  refine T.seq fun K2 hK2 => ?_
  refine T.seq fun K3 hK3 => ?_
  refine T.region ?_ -- region 1
  refine ro rfl rfl (OpOk.step (ok_move (.inl rfl))) ?_
  refine ro rfl rfl (OpOk.step (OpOk.bool (d := false) (ok_nil_no rfl ti_LLuint8 rfl (.inl rfl) rfl (by simpa [rowsA] using hne) rfl) (rfl))) ?_
  refine ro_nil ?_
  refine keepK hK3 [0, 4] (by dsimp) (by dsimp) ?_
  refine T.cond_false rfl ?_
  refine T.skip ?_
  refine keepK hK2 [0] (by dsimp) (by dsimp) ?_
  refine T.seq fun K4 hK4 => ?_
  refine T.region ?_ -- region 3
  refine ro rfl rfl (OpOk.step (ok_buildSlice (n := 0) (ps := #[]) rfl ti_LLuint8 rfl ti_Luint8 (by decide) rfl rfl (by decide) rfl rfl rfl)) ?_
  refine ro rfl rfl (OpOk.step (ok_move (.inl rfl))) ?_
  refine ro rfl rfl (OpOk.step (by exact ok_append_map (fun l => .fz 1 (ints .u8 l)) (xs := []) (ys := l) rfl ti_LLuint8 rfl ti_Luint8 (by decide) (by decide) rfl ti_LLuint8 (by simp) rfl rfl rfl rfl rfl rfl rfl rfl rfl (by show (0 + l.length) * 24 ≤ _; omega))) ?_
  refine ro rfl rfl (OpOk.step (ok_move (.inr rfl))) ?_
  refine ro_nil ?_
  refine keepK hK4 [2] (by dsimp) (by dsimp) ?_
  refine T.ret (hQ _ _ _ rfl ?_).1 -- ret 1
  exact TEnt.fin [1] (by decide) (by simp) (by simp [normH, hget, Blk.ren]; exact renL_rowsA _ _ _) ⟨by simp [tupA]; rfl, trivial⟩
theorem llclone_new (l : List (List Int)) (hl : l.length ≤ 1000000000) : CSpec Try.prog 91 [] [.fz 1 (rowsA .u8 l)] [some ⟨1, true, rowsA .u8 l⟩] (.sl 0 0 l.length) := by
  by_cases h : l = []
  · subst h; exact llclone_nil
  · exact llclone_cons l h hl
theorem code15_ok (e : Int) : CSpec Try.prog 51 [] [.int e] [] (.int e) := by
  refine CSpec.body Try.func51 rfl rfl rfl rfl rfl fun Q hQ => ?_
  refine T.seq fun K1 hK1 => ?_
  refine T.region ?_ -- region 0
  refine ro rfl rfl (OpOk.step (ok_move (.inr rfl))) ?_
  refine ro_nil ?_
  refine keepK hK1 [0] (by dsimp) (by dsimp) ?_
  refine T.seq fun K2 hK2 => ?_
  refine T.region ?_ -- region 1
  refine ro rfl rfl (OpOk.step (ok_move (.inl rfl))) ?_
  refine ro rfl rfl (OpOk.step (ok_move (.inr rfl))) ?_
  refine ro_nil ?_
  refine keepK hK2 [2] (by dsimp) (by dsimp) ?_
  refine T.ret (hQ _ _ _ rfl ?_).1 -- ret 1
  exact TEnt.fin [] (by decide) (by simp) rfl ⟨rfl, trivial⟩
theorem made_ok (c : Cf) (w : Int) (bl : List (List Int)) : CSpec Try.prog 90 [] [.agg (BufC c w bl)] [] (.b (decide (chkC c = 0))) := by
  refine CSpec.body Try.func90 rfl rfl rfl rfl rfl fun Q hQ => ?_
  refine T.seq fun K1 hK1 => ?_
  refine T.region ?_ -- region 0
  refine ro rfl rfl (OpOk.step (ok_box (n := 13) rfl rfl (by decide))) ?_
  refine ro rfl rfl (OpOk.step (ok_moveb (c := false) (.inr rfl) rfl)) ?_
  refine ro_nil ?_
  refine keepK hK1 [1] (by dsimp) (by dsimp) ?_
  refine T.seq fun K2 hK2 => ?_
  refine T.region ?_ -- region 1
  refine ro rfl rfl (OpOk.step (ok_fieldAddr rfl ti_stripe_Buf rfl rfl ti_api_Conf (by decide) rfl)) ?_
  refine ro rfl rfl (OpOk.step (ok_load rfl ti_api_Conf rfl rfl)) ?_
  refine ro rfl rfl (ok_call rfl rfl rfl ((check_ok c).plain (by show renL _ [.agg (CC c)] = _; simp [renL, AV.ren, CC_ren]) rfl)) ?_
  refine ro rfl rfl (OpOk.step ((ok_binOp rfl ti_api_Errno rfl).eq (x' := .b (decide (chkC c = 0))) (by show AV.b (chkC c == 0) = _; exact congrArg AV.b (by rw [Bool.eq_iff_iff]; simp)) rfl)) ?_
  refine ro rfl rfl (OpOk.step (ok_move (.inr rfl))) ?_
  refine ro_nil ?_
  refine keepK hK2 [2] (by dsimp) (by dsimp) ?_
  refine T.ret (hQ _ _ _ rfl ?_).1
  exact TEnt.fin [] (by decide) (by simp) rfl ⟨rfl, trivial⟩ -- ?? ret 1
theorem at15_ok (c : Cf) (w : Int) (bl : List (List Int)) : CSpec Try.prog 52 [] [.agg (BufC c w bl)] [] (.int w) := by
  refine CSpec.body Try.func52 rfl rfl rfl rfl rfl fun Q hQ => ?_
  refine T.seq fun K1 hK1 => ?_
  refine T.region ?_ -- region 0
  refine ro rfl rfl (OpOk.step (ok_box (n := 13) rfl rfl (by decide))) ?_
  refine ro rfl rfl (OpOk.step (ok_move (.inr rfl))) ?_
  refine ro_nil ?_
  refine keepK hK1 [1] (by dsimp) (by dsimp) ?_
  refine T.seq fun K2 hK2 => ?_
  refine T.region ?_ -- region 1
  refine ro rfl rfl (OpOk.step (ok_fieldAddr rfl ti_stripe_Buf rfl rfl ti_int (by decide) rfl)) ?_
  refine ro rfl rfl (OpOk.step (ok_load rfl ti_int rfl rfl)) ?_
  refine ro rfl rfl (OpOk.step (ok_move (.inr rfl))) ?_
  refine ro_nil ?_
  refine keepK hK2 [2] (by dsimp) (by dsimp) ?_
  refine T.ret (hQ _ _ _ rfl ?_).1 -- ret 1
  exact TEnt.fin [] (by decide) (by simp) rfl ⟨rfl, trivial⟩
def parC (c : Cf) (bl : List (List Int)) : List Int := if chkC c = 0 ∧ bl ≠ [] then overC c bl else []
theorem par_ok (c : Cf) (w : Int) (bl : List (List Int)) (hB : BB bl) (hn : bl.length ≤ 100000000) (hl : ∀ l ∈ bl, l.length ≤ 140737488355328) : CSpec Try.prog 53 [] [.agg (BufC c w bl)] [] (.fz 1 (ints .u8 (parC c bl))) := by
  refine CSpec.body Try.func53 rfl rfl rfl rfl rfl fun Q hQ => ?_
  refine T.seq fun K1 hK1 => ?_
  refine T.region ?_ -- region 0
  refine ro rfl rfl (OpOk.step (ok_box (n := 13) rfl rfl (by decide))) ?_
  refine ro rfl rfl (OpOk.step (ok_move (.inr rfl))) ?_
  refine ro_nil ?_
  refine keepK hK1 [1] (by dsimp) (by dsimp) ?_
  refine T.seq fun K2 hK2 => ?_
  refine T.seq fun K3 hK3 => ?_
  refine T.region ?_ -- region 1
  refine ro rfl rfl (OpOk.step (ok_load rfl ti_stripe_Buf rfl rfl)) ?_
  refine ro rfl rfl (ok_call rfl rfl rfl ((made_ok c w bl).plain (by show renL _ [.agg (BufC c w bl)] = _; simp [renL, AV.ren, BufC_ren]) rfl)) ?_
  refine ro rfl rfl (OpOk.step (ok_unOp rfl rfl)) ?_
  refine ro_case rfl rfl (OpOk.step (ok_moveb (.inl rfl) rfl)) (fun hb => ?_) (fun hb => ?_)
  · (try simp only [decide_eq_true_eq, decide_eq_false_iff_not, beq_iff_eq, beq_eq_false_iff_ne, bne_iff_ne, bne_eq_false_iff_eq, ne_eq, Bool.not_eq_true', Bool.not_eq_false'] at hb)
    refine ro_skip rfl rfl ?_
    refine ro_skip rfl rfl ?_
    refine ro_skip rfl rfl ?_
    refine ro_skip rfl rfl ?_
    refine ro rfl rfl (OpOk.step (ok_pickb (t := true) (d := true) rfl rfl rfl)) ?_
    refine ro_nil ?_
    refine keepK hK3 [1, 11] (by dsimp) (by dsimp) ?_
    refine T.cond_true rfl ?_
    refine T.seq fun K4 hK4 => ?_
    refine T.region ?_ -- region 2
    refine ro rfl rfl (OpOk.step (ok_move (.inr rfl))) ?_
    refine ro_nil ?_
    refine keepK hK4 [2] (by dsimp) (by dsimp) ?_
    refine T.ret (hQ _ _ _ rfl ?_).1 -- ret 1
    have e : parC c bl = [] := if_neg (by rintro ⟨h1, h2⟩; first | omega | (simp_all; done))
    rw [e]
    exact (TEnt.fin (tm' := [(0, .v (.slice none 0 0))]) [] (by decide) (by simp) rfl ⟨rfl, trivial⟩).trans ((TEnt.put1 0 (Ent.nil 1)).trans (TEnt.to ⟨rfl, trivial⟩))
  · (try simp only [decide_eq_true_eq, decide_eq_false_iff_not, beq_iff_eq, beq_eq_false_iff_ne, bne_iff_ne, bne_eq_false_iff_eq, ne_eq, Bool.not_eq_true', Bool.not_eq_false'] at hb)
    refine ro rfl rfl (OpOk.step (ok_fieldAddr rfl ti_stripe_Buf rfl rfl ti_LLuint8 (by decide) rfl)) ?_
    refine ro rfl rfl (OpOk.step (ok_load rfl ti_LLuint8 rfl rfl)) ?_
    refine ro rfl rfl (OpOk.step (ok_len' rfl rfl ti_LLuint8 rfl (by first | exact ints_length _ _ | exact rowsA_length _ _ | exact Cms_len _ | exact mapLen _ | rfl))) ?_
    refine ro rfl rfl (OpOk.step (ok_binOp rfl ti_int rfl)) ?_
    refine ro rfl rfl (OpOk.step (ok_pick rfl rfl)) ?_
    refine ro_nil ?_
    refine keepK hK3 [1, 11] (by dsimp) (by dsimp) ?_
    refine T.cond rfl (fun hc => ?_) (fun hc => ?_) -- cond 1
    · (try simp only [decide_eq_true_eq, decide_eq_false_iff_not, beq_iff_eq, beq_eq_false_iff_ne, bne_iff_ne, bne_eq_false_iff_eq, ne_eq, Bool.not_eq_true', Bool.not_eq_false'] at hc)
      refine T.seq fun K5 hK5 => ?_
      refine T.region ?_ -- region 2
      refine ro rfl rfl (OpOk.step (ok_move (.inr rfl))) ?_
      refine ro_nil ?_
      refine keepK hK5 [2] (by dsimp) (by dsimp) ?_
      refine T.ret (hQ _ _ _ rfl ?_).1 -- ret 2
      have hb0 : bl = [] := by first | (exact List.eq_nil_of_length_eq_zero (by first | omega | (simp at hc; omega))) | (cases bl <;> simp_all; done)
      have e : parC c bl = [] := if_neg (by rintro ⟨h1, h2⟩; exact h2 hb0)
      rw [e]
      exact (TEnt.fin (tm' := [(0, .v (.slice none 0 0))]) [] (by decide) (by simp) rfl ⟨rfl, trivial⟩).trans ((TEnt.put1 0 (Ent.nil 1)).trans (TEnt.to ⟨rfl, trivial⟩))
    · (try simp only [decide_eq_true_eq, decide_eq_false_iff_not, beq_iff_eq, beq_eq_false_iff_ne, bne_iff_ne, bne_eq_false_iff_eq, ne_eq, Bool.not_eq_true', Bool.not_eq_false'] at hc)
      refine T.skip ?_
      refine keepK hK2 [1] (by dsimp) (by dsimp) ?_
      refine T.seq fun K6 hK6 => ?_
      have hbl : bl ≠ [] := by intro h; subst h; first | omega | (simp_all; done)
      have hck : chkC c = 0 := by first | omega | (simp_all; done)
      have e : parC c bl = overC c bl := if_pos ⟨hck, hbl⟩
      refine T.region ?_ -- region 3
      refine ro rfl rfl (OpOk.step (ok_fieldAddr rfl ti_stripe_Buf rfl rfl ti_api_Conf (by decide) rfl)) ?_
      refine ro rfl rfl (OpOk.step (ok_load rfl ti_api_Conf rfl rfl)) ?_
      refine ro rfl rfl (OpOk.step (ok_fieldAddr rfl ti_stripe_Buf rfl rfl ti_LLuint8 (by decide) rfl)) ?_
      refine ro rfl rfl (OpOk.step (ok_load rfl ti_LLuint8 rfl rfl)) ?_
      refine ro rfl rfl (ok_call rfl rfl rfl ((over_frz c bl hB hn hl).plain (by show renL _ [.agg (CC c), .fz 1 (rowsA .u8 bl)] = _; simp [renL, AV.ren, CC_ren, renL_rowsA]) (by simp [AV.ren, renL_ints]))) ?_
      refine ro rfl rfl (OpOk.step (ok_move (.inr rfl))) ?_
      refine ro_nil ?_
      refine keepK hK6 [2] (by dsimp) (by dsimp) ?_
      refine T.ret (hQ _ _ _ rfl ?_).1 -- ret 3
      rw [e]
      exact TEnt.fin [] (by decide) (by simp) rfl ⟨by simp [tupA, AV.ren, renL_ints], trivial⟩

theorem bread_no (c : Cf) (w lb : Int) (bl : List (List Int)) (hw : 0 ≤ w ∧ w ≤ 2000000000) (hlb : -10 ≤ lb ∧ lb ≤ 2000000000) (hn : bl.length ≤ 100000000) (h : ¬ (chkC c = 0 ∧ 0 ≤ lb ∧ w - bl.length ≤ lb ∧ lb < w)) : CSpec Try.prog 56 [] [.agg (BufC c w bl), .int lb] [] (.tup [.fz 1 (ints .u8 []), .b false]) := by
  refine CSpec.body Try.func56 rfl rfl rfl rfl rfl fun Q hQ => ?_
  refine T.seq fun K1 hK1 => ?_
  refine T.region ?_ -- region 0
  refine ro rfl rfl (OpOk.step (ok_box (n := 13) rfl rfl (by decide))) ?_
  refine ro rfl rfl (OpOk.step (ok_move (.inr rfl))) ?_
  refine ro rfl rfl (OpOk.step (ok_moveb (c := false) (.inr rfl) rfl)) ?_
  refine ro_nil ?_
  refine keepK hK1 [1, 2] (by dsimp) (by dsimp) ?_
  refine T.seq fun K2 hK2 => ?_
  refine T.region ?_ -- region 1
  refine ro rfl rfl (OpOk.step (ok_move (.inl rfl))) ?_
  refine ro rfl rfl (OpOk.step (ok_fieldAddr rfl ti_stripe_Buf rfl rfl ti_int (by decide) rfl)) ?_
  refine ro rfl rfl (OpOk.step (ok_load rfl ti_int rfl rfl)) ?_
  refine ro rfl rfl (OpOk.step (ok_fieldAddr rfl ti_stripe_Buf rfl rfl ti_LLuint8 (by decide) rfl)) ?_
  refine ro rfl rfl (OpOk.step (ok_load rfl ti_LLuint8 rfl rfl)) ?_
  refine ro rfl rfl (OpOk.step (ok_len' rfl rfl ti_LLuint8 rfl (by first | exact ints_length _ _ | exact rowsA_length _ _ | exact Cms_len _ | exact mapLen _ | rfl))) ?_
  refine ro rfl rfl (OpOk.step (ok_sub64 rfl ti_int rfl rfl (by omega) (by omega))) ?_
  refine ro rfl rfl (OpOk.step (ok_sub64 rfl ti_int rfl rfl (by omega) (by omega))) ?_
  refine ro rfl rfl (OpOk.step (ok_move (.inr rfl))) ?_
  refine ro_nil ?_
  refine keepK hK2 [1, 2, 6] (by dsimp) (by dsimp) ?_
  refine T.seq fun K3 hK3 => ?_
  refine T.seq fun K4 hK4 => ?_
  refine T.region ?_ -- region 2
  refine ro rfl rfl (OpOk.step (ok_load rfl ti_stripe_Buf rfl rfl)) ?_
  refine ro rfl rfl (ok_call rfl rfl rfl ((made_ok c w bl).plain (by show renL _ [.agg (BufC c w bl)] = _; simp [renL, AV.ren, BufC_ren]) rfl)) ?_
  refine ro rfl rfl (OpOk.step (ok_unOp rfl rfl)) ?_
  refine ro_case rfl rfl (OpOk.step (ok_moveb (.inl rfl) rfl)) (fun hb => ?_) (fun hb => ?_)
  · (try simp only [decide_eq_true_eq, decide_eq_false_iff_not, beq_iff_eq, beq_eq_false_iff_ne, bne_iff_ne, bne_eq_false_iff_eq, ne_eq, Bool.not_eq_true', Bool.not_eq_false'] at hb)
    refine ro_skip rfl rfl ?_
    refine ro_skip rfl rfl ?_
    refine ro rfl rfl (OpOk.step (ok_pickb (t := true) (d := true) rfl rfl rfl)) ?_
    refine ro rfl rfl (OpOk.step (ok_moveb (c := true) (.inl rfl) rfl)) ?_
    refine ro_skip rfl rfl ?_
    refine ro_skip rfl rfl ?_
    refine ro rfl rfl (OpOk.step (ok_pickb (t := true) (d := true) rfl rfl rfl)) ?_
    refine ro rfl rfl (OpOk.step (ok_moveb (c := true) (.inl rfl) rfl)) ?_
    refine ro_skip rfl rfl ?_
    refine ro_skip rfl rfl ?_
    refine ro_skip rfl rfl ?_
    refine ro_skip rfl rfl ?_
    refine ro_skip rfl rfl ?_
    refine ro rfl rfl (OpOk.step (ok_pickb (t := true) (d := true) rfl rfl rfl)) ?_
    refine ro_nil ?_
    refine keepK hK4 [2, 6, 32] (by dsimp) (by dsimp) ?_
    refine T.cond_true rfl ?_
    refine T.seq fun K5 hK5 => ?_
    refine T.region ?_ -- region 3
    refine ro rfl rfl (OpOk.step (ok_move (.inr rfl))) ?_
    refine ro rfl rfl (OpOk.step (ok_moveb (c := false) (.inr rfl) rfl)) ?_
    refine ro_nil ?_
    refine keepK hK5 [4, 5] (by dsimp) (by dsimp) ?_
    refine T.ret (hQ _ _ _ rfl ?_).1 -- ret 1
    exact (TEnt.fin (tm' := [(0, .tup [.v (.slice none 0 0), .b false])]) [] (by decide) (by simp) rfl ⟨rfl, trivial⟩).trans ((TEnt.put1 0 (Ent.tup' (EntL.cons (Ent.nil 1) (EntL.refl _)))).trans (TEnt.to ⟨rfl, trivial⟩))
  · (try simp only [decide_eq_true_eq, decide_eq_false_iff_not, beq_iff_eq, beq_eq_false_iff_ne, bne_iff_ne, bne_eq_false_iff_eq, ne_eq, Bool.not_eq_true', Bool.not_eq_false'] at hb)
    refine ro rfl rfl (OpOk.step (ok_move (.inl rfl))) ?_
    refine ro rfl rfl (OpOk.step (ok_binOp rfl ti_int rfl)) ?_
    refine ro rfl rfl (OpOk.step (ok_pick rfl rfl)) ?_
    refine ro_case rfl rfl (OpOk.step (ok_moveb (.inl rfl) rfl)) (fun hb => ?_) (fun hb => ?_)
    · (try simp only [decide_eq_true_eq, decide_eq_false_iff_not, beq_iff_eq, beq_eq_false_iff_ne, bne_iff_ne, bne_eq_false_iff_eq, ne_eq, Bool.not_eq_true', Bool.not_eq_false'] at hb)
      refine ro_skip rfl rfl ?_
      refine ro_skip rfl rfl ?_
      refine ro rfl rfl (OpOk.step (ok_pickb (t := true) (d := true) rfl rfl rfl)) ?_
      refine ro rfl rfl (OpOk.step (ok_moveb (c := true) (.inl rfl) rfl)) ?_
      refine ro_skip rfl rfl ?_
      refine ro_skip rfl rfl ?_
      refine ro_skip rfl rfl ?_
      refine ro_skip rfl rfl ?_
      refine ro_skip rfl rfl ?_
      refine ro rfl rfl (OpOk.step (ok_pickb (t := true) (d := true) rfl rfl rfl)) ?_
      refine ro_nil ?_
      refine keepK hK4 [2, 6, 32] (by dsimp) (by dsimp) ?_
      refine T.cond_true rfl ?_
      refine T.seq fun K6 hK6 => ?_
      refine T.region ?_ -- region 3
      refine ro rfl rfl (OpOk.step (ok_move (.inr rfl))) ?_
      refine ro rfl rfl (OpOk.step (ok_moveb (c := false) (.inr rfl) rfl)) ?_
      refine ro_nil ?_
      refine keepK hK6 [4, 5] (by dsimp) (by dsimp) ?_
      refine T.ret (hQ _ _ _ rfl ?_).1 -- ret 2
      exact (TEnt.fin (tm' := [(0, .tup [.v (.slice none 0 0), .b false])]) [] (by decide) (by simp) rfl ⟨rfl, trivial⟩).trans ((TEnt.put1 0 (Ent.tup' (EntL.cons (Ent.nil 1) (EntL.refl _)))).trans (TEnt.to ⟨rfl, trivial⟩))
    · (try simp only [decide_eq_true_eq, decide_eq_false_iff_not, beq_iff_eq, beq_eq_false_iff_ne, bne_iff_ne, bne_eq_false_iff_eq, ne_eq, Bool.not_eq_true', Bool.not_eq_false'] at hb)
      refine ro rfl rfl (OpOk.step (ok_move (.inl rfl))) ?_
      refine ro rfl rfl (OpOk.step (ok_binOp rfl ti_int rfl)) ?_
      refine ro rfl rfl (OpOk.step (ok_pick rfl rfl)) ?_
      refine ro_case rfl rfl (OpOk.step (ok_moveb (.inl rfl) rfl)) (fun hb => ?_) (fun hb => ?_)
      · (try simp only [decide_eq_true_eq, decide_eq_false_iff_not, beq_iff_eq, beq_eq_false_iff_ne, bne_iff_ne, bne_eq_false_iff_eq, ne_eq, Bool.not_eq_true', Bool.not_eq_false'] at hb)
        refine ro_skip rfl rfl ?_
        refine ro_skip rfl rfl ?_
        refine ro_skip rfl rfl ?_
        refine ro_skip rfl rfl ?_
        refine ro_skip rfl rfl ?_
        refine ro rfl rfl (OpOk.step (ok_pickb (t := true) (d := true) rfl rfl rfl)) ?_
        refine ro_nil ?_
        refine keepK hK4 [2, 6, 32] (by dsimp) (by dsimp) ?_
        refine T.cond_true rfl ?_
        refine T.seq fun K7 hK7 => ?_
        refine T.region ?_ -- region 3
        refine ro rfl rfl (OpOk.step (ok_move (.inr rfl))) ?_
        refine ro rfl rfl (OpOk.step (ok_moveb (c := false) (.inr rfl) rfl)) ?_
        refine ro_nil ?_
        refine keepK hK7 [4, 5] (by dsimp) (by dsimp) ?_
        refine T.ret (hQ _ _ _ rfl ?_).1 -- ret 3
        exact (TEnt.fin (tm' := [(0, .tup [.v (.slice none 0 0), .b false])]) [] (by decide) (by simp) rfl ⟨rfl, trivial⟩).trans ((TEnt.put1 0 (Ent.tup' (EntL.cons (Ent.nil 1) (EntL.refl _)))).trans (TEnt.to ⟨rfl, trivial⟩))
      · (try simp only [decide_eq_true_eq, decide_eq_false_iff_not, beq_iff_eq, beq_eq_false_iff_ne, bne_iff_ne, bne_eq_false_iff_eq, ne_eq, Bool.not_eq_true', Bool.not_eq_false'] at hb)
        refine ro rfl rfl (OpOk.step (ok_move (.inl rfl))) ?_
        refine ro rfl rfl (OpOk.step (ok_fieldAddr rfl ti_stripe_Buf rfl rfl ti_LLuint8 (by decide) rfl)) ?_
        refine ro rfl rfl (OpOk.step (ok_load rfl ti_LLuint8 rfl rfl)) ?_
        refine ro rfl rfl (OpOk.step (ok_len' rfl rfl ti_LLuint8 rfl (by first | exact ints_length _ _ | exact rowsA_length _ _ | exact Cms_len _ | exact mapLen _ | rfl))) ?_
        refine ro rfl rfl (OpOk.step (ok_binOp rfl ti_int rfl)) ?_
        refine ro rfl rfl (OpOk.step (ok_pick rfl rfl)) ?_
        refine ro_nil ?_
        refine keepK hK4 [2, 6, 32] (by dsimp) (by dsimp) ?_
        refine T.cond rfl (fun hc => ?_) (fun hc => ?_) -- cond 1
        · (try simp only [decide_eq_true_eq, decide_eq_false_iff_not, beq_iff_eq, beq_eq_false_iff_ne, bne_iff_ne, bne_eq_false_iff_eq, ne_eq, Bool.not_eq_true', Bool.not_eq_false'] at hc)
          refine T.seq fun K8 hK8 => ?_
          refine T.region ?_ -- region 3
          refine ro rfl rfl (OpOk.step (ok_move (.inr rfl))) ?_
          refine ro rfl rfl (OpOk.step (ok_moveb (c := false) (.inr rfl) rfl)) ?_
          refine ro_nil ?_
          refine keepK hK8 [4, 5] (by dsimp) (by dsimp) ?_
          refine T.ret (hQ _ _ _ rfl ?_).1 -- ret 4
          exact (TEnt.fin (tm' := [(0, .tup [.v (.slice none 0 0), .b false])]) [] (by decide) (by simp) rfl ⟨rfl, trivial⟩).trans ((TEnt.put1 0 (Ent.tup' (EntL.cons (Ent.nil 1) (EntL.refl _)))).trans (TEnt.to ⟨rfl, trivial⟩))
        · (try simp only [decide_eq_true_eq, decide_eq_false_iff_not, beq_iff_eq, beq_eq_false_iff_ne, bne_iff_ne, bne_eq_false_iff_eq, ne_eq, Bool.not_eq_true', Bool.not_eq_false'] at hc)
          exfalso
          exact h ⟨by first | omega | (simp_all; done), by omega, by omega, by omega⟩
theorem bread_ok (c : Cf) (w lb : Int) (bl : List (List Int)) (k : Nat) (x : List Int) (hw : 0 ≤ w ∧ w ≤ 2000000000) (hlb : 0 ≤ lb ∧ lb ≤ 2000000000) (hn : bl.length ≤ 100000000) (hc : chkC c = 0) (hk : lb = w - bl.length + k) (hx : bl[k]? = some x) (hxl : x.length ≤ 140737488355328) : CSpec Try.prog 56 [] [.agg (BufC c w bl), .int lb] [] (.tup [.fz 1 (ints .u8 x), .b true]) := by
  have hkl := (List.getElem?_eq_some_iff.1 hx).1
  refine CSpec.body Try.func56 rfl rfl rfl rfl rfl fun Q hQ => ?_
  refine T.seq fun K1 hK1 => ?_
  refine T.region ?_ -- region 0
  refine ro rfl rfl (OpOk.step (ok_box (n := 13) rfl rfl (by decide))) ?_
  refine ro rfl rfl (OpOk.step (ok_move (.inr rfl))) ?_
  refine ro rfl rfl (OpOk.step (ok_moveb (c := false) (.inr rfl) rfl)) ?_
  refine ro_nil ?_
  refine keepK hK1 [1, 2] (by dsimp) (by dsimp) ?_
  refine T.seq fun K2 hK2 => ?_
  refine T.region ?_ -- region 1
  refine ro rfl rfl (OpOk.step (ok_move (.inl rfl))) ?_
  refine ro rfl rfl (OpOk.step (ok_fieldAddr rfl ti_stripe_Buf rfl rfl ti_int (by decide) rfl)) ?_
  refine ro rfl rfl (OpOk.step (ok_load rfl ti_int rfl rfl)) ?_
  refine ro rfl rfl (OpOk.step (ok_fieldAddr rfl ti_stripe_Buf rfl rfl ti_LLuint8 (by decide) rfl)) ?_
  refine ro rfl rfl (OpOk.step (ok_load rfl ti_LLuint8 rfl rfl)) ?_
  refine ro rfl rfl (OpOk.step (ok_len' rfl rfl ti_LLuint8 rfl (by first | exact ints_length _ _ | exact rowsA_length _ _ | exact Cms_len _ | exact mapLen _ | rfl))) ?_
  refine ro rfl rfl (OpOk.step (ok_sub64 rfl ti_int rfl rfl (by omega) (by omega))) ?_
  refine ro rfl rfl (OpOk.step (ok_sub64 rfl ti_int rfl rfl (by omega) (by omega))) ?_
  refine ro rfl rfl (OpOk.step (ok_move (.inr rfl))) ?_
  refine ro_nil ?_
  refine keepK hK2 [1, 2, 6] (by dsimp) (by dsimp) ?_
  refine T.seq fun K3 hK3 => ?_
  refine T.seq fun K4 hK4 => ?_
  refine T.region ?_ -- region 2
  refine ro rfl rfl (OpOk.step (ok_load rfl ti_stripe_Buf rfl rfl)) ?_
  refine ro rfl rfl (ok_call rfl rfl rfl ((made_ok c w bl).plain (by show renL _ [.agg (BufC c w bl)] = _; simp [renL, AV.ren, BufC_ren]) rfl)) ?_
  refine ro rfl rfl (OpOk.step (ok_unOp rfl rfl)) ?_
  refine ro rfl rfl (OpOk.step (OpOk.bool (d := false) (ok_moveb (.inl rfl) rfl) (by simp [hc]))) ?_
  refine ro rfl rfl (OpOk.step (ok_move (.inl rfl))) ?_
  refine ro rfl rfl (OpOk.step (ok_binOp rfl ti_int rfl)) ?_
  refine ro rfl rfl (OpOk.step (ok_pick rfl rfl)) ?_
  refine ro rfl rfl (OpOk.step (OpOk.bool (d := false) (ok_moveb (.inl rfl) rfl) (by simp; omega))) ?_
  refine ro rfl rfl (OpOk.step (ok_move (.inl rfl))) ?_
  refine ro rfl rfl (OpOk.step (ok_binOp rfl ti_int rfl)) ?_
  refine ro rfl rfl (OpOk.step (ok_pick rfl rfl)) ?_
  refine ro rfl rfl (OpOk.step (OpOk.bool (d := false) (ok_moveb (.inl rfl) rfl) (by simp; omega))) ?_
  refine ro rfl rfl (OpOk.step (ok_move (.inl rfl))) ?_
  refine ro rfl rfl (OpOk.step (ok_fieldAddr rfl ti_stripe_Buf rfl rfl ti_LLuint8 (by decide) rfl)) ?_
  refine ro rfl rfl (OpOk.step (ok_load rfl ti_LLuint8 rfl rfl)) ?_
  refine ro rfl rfl (OpOk.step (ok_len' rfl rfl ti_LLuint8 rfl (by first | exact ints_length _ _ | exact rowsA_length _ _ | exact Cms_len _ | exact mapLen _ | rfl))) ?_
  refine ro rfl rfl (OpOk.step (OpOk.bool (d := false) (ok_binOp rfl ti_int rfl) (by simp; omega))) ?_
  refine ro rfl rfl (OpOk.step (OpOk.bool (d := false) (ok_pickb rfl rfl rfl) (rfl))) ?_
  refine ro_nil ?_
  refine keepK hK4 [2, 6, 32] (by dsimp) (by dsimp) ?_
  refine T.cond_false rfl ?_
  refine T.skip ?_
  refine keepK hK3 [2, 6] (by dsimp) (by dsimp) ?_
  refine T.seq fun K5 hK5 => ?_
  refine T.region ?_ -- region 4
  refine ro rfl rfl (OpOk.step (ok_fieldAddr rfl ti_stripe_Buf rfl rfl ti_LLuint8 (by decide) rfl)) ?_
  refine ro rfl rfl (OpOk.step (ok_load rfl ti_LLuint8 rfl rfl)) ?_
  refine ro rfl rfl (OpOk.step (ok_move (.inl rfl))) ?_
  refine ro rfl rfl (OpOk.step (by exact ok_index_fz rfl ti_LLuint8 rfl ti_Luint8 rfl rfl rfl (by omega) (rowsA_get_of (i := (lb - (w - bl.length)).toNat) (by rw [show (lb - (w - (bl.length : Int))).toNat = k by omega]; exact hx)) rfl)) ?_
  refine ro rfl rfl (OpOk.step (ok_load rfl ti_Luint8 rfl rfl)) ?_
  refine ro rfl rfl (ok_call rfl rfl rfl ((clone_frz x hxl).plain (by simp [renL, AV.ren, renL_ints]) (by simp [AV.ren, renL_ints]))) ?_
  refine ro rfl rfl (OpOk.step (ok_move (.inr rfl))) ?_
  refine ro rfl rfl (OpOk.step (ok_moveb (c := true) (.inr rfl) rfl)) ?_
  refine ro_nil ?_
  refine keepK hK5 [4, 5] (by dsimp) (by dsimp) ?_
  refine T.ret (hQ _ _ _ rfl ?_).1 -- ret 1
  exact TEnt.fin [] (by decide) (by simp) rfl ⟨by simp [tupA, AV.ren, renL, renL_ints], trivial⟩
/-- What a push makes: the settings, how many, those of the stripe, the parity, the error. -/
structure PS where
  c : Cf
  w : Int
  bl : List (List Int)
  p : List Int
  e : Int
def PSA (s : PS) : AV := .tup [.agg (BufC s.c s.w s.bl), .fz 1 (ints .u8 s.p), .int s.e]
theorem PSA_ren (ρ : Nat → Option Nat) (s : PS) : (PSA s).ren ρ = PSA s := by simp [PSA, AV.ren, renL, BufC_ren, renL_ints]
def pushS (c : Cf) (w : Int) (bl : List (List Int)) (x : List Int) : PS :=
  if (x.length : Int) ≠ c.blk then ⟨c00, 0, [], [], 3⟩ else
  if w ≥ sizeC c then ⟨c00, 0, [], [], 6⟩ else
  if (bl.length : Int) + 1 < rowC c then ⟨c, w + 1, bl ++ [x], [], 0⟩ else ⟨c, w + 1, [], overC c (bl ++ [x]), 0⟩
theorem ps_err (H : Heap) (e : Int) : Ent H (.tup [.agg (CC c00 ++ [.int 0, .v (.slice none 0 0)]), .v (.slice none 0 0), .int e]) (PSA ⟨c00, 0, [], [], e⟩) :=
  Ent.tup' (EntL.cons (buf_ent _ _ _) (EntL.cons (Ent.nil 1) (EntL.refl _)))
theorem ps_more (H : Heap) (c : Cf) (w : Int) (bl : List (List Int)) : Ent H (.tup [.agg (BufC c w bl), .v (.slice none 0 0), .int 0]) (PSA ⟨c, w, bl, [], 0⟩) :=
  Ent.tup' (EntL.cons (Ent.refl _) (EntL.cons (Ent.nil 1) (EntL.refl _)))
theorem ps_whole (H : Heap) (c : Cf) (w : Int) (p : List Int) : Ent H (.tup [.agg (CC c ++ [.int w, .v (.slice none 0 0)]), .fz 1 (ints .u8 p), .int 0]) (PSA ⟨c, w, [], p, 0⟩) :=
  Ent.tup' (EntL.cons (buf_ent _ _ _) (EntL.refl _))
theorem rows_snoc (bl : List (List Int)) (x : List Int) : (bl ++ [x]).map (fun l => AV.fz 1 (ints .u8 l)) = rowsA .u8 (bl ++ [x]) := rfl
set_option maxHeartbeats 2000000 in
theorem push_ok (c : Cf) (w : Int) (bl : List (List Int)) (x : List Int) (hchk : chkC c = 0) (hw : 0 ≤ w ∧ w ≤ 2000000000000) (hB : BB (bl ++ [x])) (hn : bl.length ≤ 1000000) (hl : ∀ l ∈ bl ++ [x], l.length ≤ 140737488355328) : CSpec Try.prog 54 [] [.agg (BufC c w bl), .fz 1 (ints .u8 x)] [] (PSA (pushS c w bl x)) := by
  have hxl : x.length ≤ 140737488355328 := hl x (by simp)
  refine CSpec.body Try.func54 rfl rfl rfl rfl rfl fun Q hQ => ?_
  refine T.seq fun K1 hK1 => ?_
  refine T.region ?_ -- region 0
  refine ro rfl rfl (OpOk.step (ok_box (n := 13) rfl rfl (by decide))) ?_
  refine ro rfl rfl (OpOk.step (ok_alloc rfl ti_stripe_Buf rfl (by decide))) ?_
  refine ro rfl rfl (OpOk.step (ok_move (.inr rfl))) ?_
  refine ro rfl rfl (OpOk.step (ok_move (.inr rfl))) ?_
  refine ro_nil ?_
  refine keepK hK1 [1, 2, 4] (by dsimp) (by dsimp) ?_
  refine T.seq fun K2 hK2 => ?_
  refine T.block ?_
  refine T.seq fun K3 hK3 => ?_
  refine T.region ?_ -- region 1
  refine ro rfl rfl (OpOk.step (ok_load rfl ti_stripe_Buf rfl rfl)) ?_
  refine ro rfl rfl (ok_call rfl rfl rfl ((made_ok c w bl).plain (by show renL _ [.agg (BufC c w bl)] = _; simp [renL, AV.ren, BufC_ren]) rfl)) ?_
  refine ro rfl rfl (OpOk.step (OpOk.bool (d := false) (ok_unOp rfl rfl) (by simp [hchk]))) ?_
  refine ro rfl rfl (OpOk.step (OpOk.bool (d := false) (ok_moveb (.inr rfl) rfl) (rfl))) ?_
  refine ro_nil ?_
  refine keepK hK3 [1, 2, 4, 8] (by dsimp) (by dsimp) ?_
  refine T.cond_false rfl ?_
  refine T.seq fun K4 hK4 => ?_
  refine T.region ?_ -- region 3
  refine ro rfl rfl (OpOk.step (ok_move (.inl rfl))) ?_
  refine ro rfl rfl (OpOk.step (ok_len' rfl rfl ti_Luint8 rfl (by first | exact ints_length _ _ | exact rowsA_length _ _ | exact Cms_len _ | exact mapLen _ | rfl))) ?_
  refine ro rfl rfl (OpOk.step (ok_fieldAddr rfl ti_stripe_Buf rfl rfl ti_api_Conf (by decide) rfl)) ?_
  refine ro rfl rfl (OpOk.step (ok_fieldAddr rfl ti_api_Conf rfl rfl ti_int (by decide) rfl)) ?_
  refine ro rfl rfl (OpOk.step (ok_load rfl ti_int rfl rfl)) ?_
  refine ro rfl rfl (OpOk.step (ok_binOp rfl ti_int rfl)) ?_
  refine ro rfl rfl (OpOk.step (ok_move (.inr rfl))) ?_
  refine ro_nil ?_
  refine keepK hK4 [1, 2, 4, 13] (by dsimp) (by dsimp) ?_
  refine T.cond rfl (fun hc => ?_) (fun hc => ?_) -- cond 1
  · (try simp only [decide_eq_true_eq, decide_eq_false_iff_not, beq_iff_eq, beq_eq_false_iff_ne, bne_iff_ne, bne_eq_false_iff_eq, ne_eq, Bool.not_eq_true', Bool.not_eq_false'] at hc)
    have e : pushS c w bl x = ⟨c00, 0, [], [], 3⟩ := if_pos hc
    rw [e] at hQ
    refine T.seq fun K5 hK5 => ?_
    refine T.region ?_ -- region 4
    refine ro rfl rfl (OpOk.step (ok_build rfl ti_stripe_Buf rfl)) ?_
    refine ro rfl rfl (OpOk.step (ok_store rfl ti_stripe_Buf (by decide) rfl rfl rfl rfl rfl (by first | exact Nat.le_of_ble_eq_true rfl | simp) (by first | exact .inl ⟨rfl, rfl⟩ | exact .inr rfl))) ?_
    refine ro rfl rfl (OpOk.step (ok_move (.inr rfl))) ?_
    refine ro rfl rfl (OpOk.step (ok_move (.inr rfl))) ?_
    refine ro_nil ?_
    refine keepK hK5 [4, 5, 6] (by dsimp) (by dsimp) ?_
    refine T.ret (hQ _ _ _ rfl ?_).1 -- ret 1
    exact (TEnt.fin (tm' := [(0, .tup [.agg (CC c00 ++ [.int 0, .v (.slice none 0 0)]), .v (.slice none 0 0), .int 3])]) [] (by decide) (by simp) rfl ⟨rfl, trivial⟩).trans ((TEnt.put1 0 (ps_err _ 3)).trans (TEnt.to ⟨rfl, trivial⟩))
  · (try simp only [decide_eq_true_eq, decide_eq_false_iff_not, beq_iff_eq, beq_eq_false_iff_ne, bne_iff_ne, bne_eq_false_iff_eq, ne_eq, Bool.not_eq_true', Bool.not_eq_false'] at hc)
    have hxb : ¬ (x.length : Int) ≠ c.blk := by omega
    refine T.seq fun K6 hK6 => ?_
    refine T.drawH mixed [] ?_ -- region 5
    refine any_take 0 rfl (by first | rfl | decide +kernel) rfl (HeldL.refl _) (fun H' hH => OpOk.step (ok_fieldAddr rfl ti_stripe_Buf rfl rfl ti_int (by decide) rfl)) ?_
    refine any_take 1 rfl (by first | rfl | decide +kernel) rfl (HeldL.refl _) (fun H' hH => OpOk.step (ok_load rfl ti_int (locA_held hH rfl) rfl)) ?_
    refine any_take 2 rfl (by first | rfl | decide +kernel) rfl (HeldL.refl _) (fun H' hH => OpOk.step (ok_fieldAddr rfl ti_stripe_Buf rfl rfl ti_api_Conf (by decide) rfl)) ?_
    refine any_take 3 rfl (by first | rfl | decide +kernel) rfl (HeldL.refl _) (fun H' hH => OpOk.step (ok_load rfl ti_api_Conf (locA_held hH rfl) rfl)) ?_
    refine any_one 4 rfl (by first | rfl | decide +kernel) rfl rfl (ok_call rfl rfl rfl ((size_ok c).plain (by show renL _ [.agg (CC c)] = _; simp [renL, AV.ren, CC_ren]) rfl)) (.inr (by first | (simp [HeldL]; done) | (simp only [HeldL, List.map_cons, List.map_nil, List.cons_append, List.nil_append, List.set_cons_zero, List.set_cons_succ]; (repeat' first | trivial | rfl | constructor)))) ?_
    refine any_take 5 rfl (by first | rfl | decide +kernel) rfl (by first | exact HeldL.refl _ | exact HeldL.append _ _ | simp [HeldL]) (fun H' hH => OpOk.step (ok_binOp rfl ti_int rfl)) ?_
    refine any_take 6 rfl (by first | rfl | decide +kernel) rfl (by first | exact HeldL.refl _ | exact HeldL.append _ _ | simp [HeldL]) (fun H' hH => OpOk.step (ok_move (.inr rfl))) ?_
    refine any_done rfl ?_
    refine keepK hK6 [1, 2, 4, 21] (by dsimp) (by dsimp) ?_
    refine T.cond rfl (fun hc => ?_) (fun hc => ?_) -- cond 2
    · (try simp only [decide_eq_true_eq, decide_eq_false_iff_not, beq_iff_eq, beq_eq_false_iff_ne, bne_iff_ne, bne_eq_false_iff_eq, ne_eq, Bool.not_eq_true', Bool.not_eq_false'] at hc)
      have e : pushS c w bl x = ⟨c00, 0, [], [], 6⟩ := by unfold pushS; rw [if_neg hxb, if_pos (by omega)]
      rw [e] at hQ
      refine T.seq fun K7 hK7 => ?_
      refine T.region ?_ -- region 6
      refine ro rfl rfl (OpOk.step (ok_build rfl ti_stripe_Buf rfl)) ?_
      refine ro rfl rfl (OpOk.step (ok_store rfl ti_stripe_Buf (by decide) rfl rfl rfl rfl rfl (by first | exact Nat.le_of_ble_eq_true rfl | simp) (by first | exact .inl ⟨rfl, rfl⟩ | exact .inr rfl))) ?_
      refine ro rfl rfl (OpOk.step (ok_move (.inr rfl))) ?_
      refine ro rfl rfl (OpOk.step (ok_move (.inr rfl))) ?_
      refine ro_nil ?_
      refine keepK hK7 [4, 5, 6] (by dsimp) (by dsimp) ?_
      refine T.ret (hQ _ _ _ rfl ?_).1 -- ret 2
      exact (TEnt.fin (tm' := [(0, .tup [.agg (CC c00 ++ [.int 0, .v (.slice none 0 0)]), .v (.slice none 0 0), .int 6])]) [] (by decide) (by simp) rfl ⟨rfl, trivial⟩).trans ((TEnt.put1 0 (ps_err _ 6)).trans (TEnt.to ⟨rfl, trivial⟩))
    · (try simp only [decide_eq_true_eq, decide_eq_false_iff_not, beq_iff_eq, beq_eq_false_iff_ne, bne_iff_ne, bne_eq_false_iff_eq, ne_eq, Bool.not_eq_true', Bool.not_eq_false'] at hc)
      have hws : ¬ w ≥ sizeC c := by omega
      refine T.skip ?_
      refine keepK hK2 [1, 2, 4] (by dsimp) (by dsimp) ?_
      refine T.seq fun K8 hK8 => ?_
      refine T.region ?_ -- region 7
      refine ro rfl rfl (OpOk.step (ok_fieldAddr rfl ti_stripe_Buf rfl rfl ti_LLuint8 (by decide) rfl)) ?_
      refine ro rfl rfl (OpOk.step (ok_load rfl ti_LLuint8 rfl rfl)) ?_
      refine ro rfl rfl (ok_call rfl rfl rfl ((llclone_new bl (by omega)).fresh (x' := .sl 2 0 bl.length) (H' := [some ⟨1, true, rowsA .u8 bl⟩]) (by simp [renL, AV.ren, renL_rowsA]) rfl (by simp [renH, Blk.ren, renL_rowsA]))) ?_
      refine ro rfl rfl (OpOk.step (ok_move (.inl rfl))) ?_
      refine ro rfl rfl (ok_call rfl rfl rfl ((clone_frz x hxl).plain (by simp [renL, AV.ren, renL_ints]) (by simp [AV.ren, renL_ints]))) ?_
      refine ro rfl rfl (OpOk.step (ok_buildSlice (n := 1) (ps := #[(0, .tmp 33)]) rfl ti_LLuint8 rfl ti_Luint8 (by decide) rfl rfl (by decide) rfl rfl rfl)) ?_
      refine ro rfl rfl (OpOk.step (((ok_append_map (fun l => .fz 1 (ints .u8 l)) (xs := bl) (ys := [x]) rfl ti_LLuint8 rfl ti_Luint8 (by decide) (by decide) rfl ti_LLuint8 (by simp) rfl rfl rfl rfl rfl rfl rfl rfl rfl (by show (_ + 1) * 24 ≤ _; omega)).frz rfl (by simp)).eq (x' := .fz 1 (rowsA .u8 (bl ++ [x]))) (H'' := [some (BufB c w bl), some ⟨13, true, [.agg (CC c00 ++ [.int 0, .v (.slice none 0 0)])]⟩, none, some ⟨1, true, rowsA .u8 [x]⟩, some ⟨1, false, rowsA .u8 (bl ++ [x])⟩]) rfl rfl)) ?_
      refine ro rfl rfl (OpOk.step (ok_fieldAddr rfl ti_stripe_Buf rfl rfl ti_LLuint8 (by decide) rfl)) ?_
      refine ro rfl rfl (OpOk.step ((ok_store rfl ti_LLuint8 (by decide) rfl rfl rfl rfl rfl (Nat.le_of_ble_eq_true rfl) (.inr rfl)).eq (x' := .any) (H'' := [some (BufB c w (bl ++ [x])), some ⟨13, true, [.agg (CC c00 ++ [.int 0, .v (.slice none 0 0)])]⟩, none, some ⟨1, true, rowsA .u8 [x]⟩, some ⟨1, false, rowsA .u8 (bl ++ [x])⟩]) rfl rfl)) ?_
      refine ro_nil ?_
      refine keepK hK8 [2, 4] (by dsimp) (by dsimp) ?_
      refine T.seq fun K9 hK9 => ?_
      refine T.region ?_ -- region 8
      refine ro rfl rfl (OpOk.step (ok_fieldAddr rfl ti_stripe_Buf rfl rfl ti_int (by decide) rfl)) ?_
      refine ro rfl rfl (OpOk.step (ok_load rfl ti_int rfl rfl)) ?_
      refine ro rfl rfl (OpOk.step (ok_add64 rfl ti_int rfl rfl (by omega) (by omega))) ?_
      refine ro rfl rfl (OpOk.step (ok_fieldAddr rfl ti_stripe_Buf rfl rfl ti_int (by decide) rfl)) ?_
      refine ro rfl rfl (OpOk.step ((ok_store rfl ti_int (by decide) rfl rfl rfl rfl rfl (Nat.le_of_ble_eq_true rfl) (.inr rfl)).eq (x' := .any) (H'' := [some (BufB c (w + 1) (bl ++ [x])), some ⟨13, true, [.agg (CC c00 ++ [.int 0, .v (.slice none 0 0)])]⟩, none, some ⟨1, true, rowsA .u8 [x]⟩, some ⟨1, false, rowsA .u8 (bl ++ [x])⟩]) rfl rfl)) ?_
      refine ro_nil ?_
      refine keepK hK9 [2, 4] (by dsimp) (by dsimp) ?_
      refine T.seq fun K10 hK10 => ?_
      refine T.seq fun K11 hK11 => ?_
      refine T.drawH mixed [] ?_ -- region 9
      refine any_take 0 rfl (by first | rfl | decide +kernel) rfl (HeldL.refl _) (fun H' hH => OpOk.step (ok_fieldAddr rfl ti_stripe_Buf rfl rfl ti_LLuint8 (by decide) rfl)) ?_
      refine any_take 1 rfl (by first | rfl | decide +kernel) rfl (HeldL.refl _) (fun H' hH => OpOk.step (ok_load rfl ti_LLuint8 (locA_held hH rfl) rfl)) ?_
      refine any_take 2 rfl (by first | rfl | decide +kernel) rfl (HeldL.refl _) (fun H' hH => OpOk.step ((ok_len rfl rfl ti_LLuint8 rfl).eq (x' := .int ((bl.length : Int) + 1)) (by simp) rfl)) ?_
      refine any_take 3 rfl (by first | rfl | decide +kernel) rfl (HeldL.refl _) (fun H' hH => OpOk.step (ok_fieldAddr rfl ti_stripe_Buf rfl rfl ti_api_Conf (by decide) rfl)) ?_
      refine any_take 4 rfl (by first | rfl | decide +kernel) rfl (HeldL.refl _) (fun H' hH => OpOk.step (ok_load rfl ti_api_Conf (locA_held hH rfl) rfl)) ?_
      refine any_one 5 rfl (by first | rfl | decide +kernel) rfl rfl (ok_call rfl rfl rfl ((row_ok c).plain (by show renL _ [.agg (CC c)] = _; simp [renL, AV.ren, CC_ren]) rfl)) (.inr (by first | (simp [HeldL]; done) | (simp only [HeldL, List.map_cons, List.map_nil, List.cons_append, List.nil_append, List.set_cons_zero, List.set_cons_succ]; (repeat' first | trivial | rfl | constructor)))) ?_
      refine any_take 6 rfl (by first | rfl | decide +kernel) rfl (by first | exact HeldL.refl _ | exact HeldL.append _ _ | simp [HeldL]) (fun H' hH => OpOk.step (ok_binOp rfl ti_int rfl)) ?_
      refine any_done rfl ?_
      refine keepK hK11 [2, 4, 47] (by dsimp) (by dsimp) ?_
      refine T.cond rfl (fun hc => ?_) (fun hc => ?_) -- cond 3
      · (try simp only [decide_eq_true_eq, decide_eq_false_iff_not, beq_iff_eq, beq_eq_false_iff_ne, bne_iff_ne, bne_eq_false_iff_eq, ne_eq, Bool.not_eq_true', Bool.not_eq_false'] at hc)
        have e : pushS c w bl x = ⟨c, w + 1, bl ++ [x], [], 0⟩ := by unfold pushS; rw [if_neg hxb, if_neg hws, if_pos (by omega)]
        rw [e] at hQ
        refine T.seq fun K12 hK12 => ?_
        refine T.region ?_ -- region 10
        refine ro rfl rfl (OpOk.step (ok_load rfl ti_stripe_Buf rfl rfl)) ?_
        refine ro rfl rfl (OpOk.step (ok_store rfl ti_stripe_Buf (by decide) rfl rfl rfl rfl rfl (by first | exact Nat.le_of_ble_eq_true rfl | simp) (by first | exact .inl ⟨rfl, rfl⟩ | exact .inr rfl))) ?_
        refine ro rfl rfl (OpOk.step (ok_move (.inr rfl))) ?_
        refine ro rfl rfl (OpOk.step (ok_move (.inr rfl))) ?_
        refine ro_nil ?_
        refine keepK hK12 [4, 5, 6] (by dsimp) (by dsimp) ?_
        refine T.ret (hQ _ _ _ rfl ?_).1 -- ret 3
        exact (TEnt.fin (tm' := [(0, .tup [.agg (BufC c (w + 1) (bl ++ [x])), .v (.slice none 0 0), .int 0])]) [] (by decide) (by simp) rfl ⟨by show AV.ren _ (.tup [.agg (BufC c (w + 1) (bl ++ [x])), .v (.slice none 0 0), .int 0]) = _; simp [AV.ren, renL, BufC_ren], trivial⟩).trans ((TEnt.put1 0 (ps_more _ _ _ _)).trans (TEnt.to ⟨rfl, trivial⟩))
      · (try simp only [decide_eq_true_eq, decide_eq_false_iff_not, beq_iff_eq, beq_eq_false_iff_ne, bne_iff_ne, bne_eq_false_iff_eq, ne_eq, Bool.not_eq_true', Bool.not_eq_false'] at hc)
        have e : pushS c w bl x = ⟨c, w + 1, [], overC c (bl ++ [x]), 0⟩ := by unfold pushS; rw [if_neg hxb, if_neg hws, if_neg (by omega)]
        rw [e] at hQ
        refine T.skip ?_
        refine keepK hK10 [2, 4] (by dsimp) (by dsimp) ?_
        refine T.seq fun K13 hK13 => ?_
        refine T.region ?_ -- region 11
        refine ro rfl rfl (OpOk.step (ok_fieldAddr rfl ti_stripe_Buf rfl rfl ti_api_Conf (by decide) rfl)) ?_
        refine ro rfl rfl (OpOk.step (ok_load rfl ti_api_Conf rfl rfl)) ?_
        refine ro rfl rfl (OpOk.step (ok_fieldAddr rfl ti_stripe_Buf rfl rfl ti_LLuint8 (by decide) rfl)) ?_
        refine ro rfl rfl (OpOk.step (ok_load rfl ti_LLuint8 rfl rfl)) ?_
        refine ro rfl rfl (ok_call rfl rfl rfl ((over_frz c (bl ++ [x]) hB (by simp; omega) hl).plain (by show renL _ [.agg (CC c), .fz 1 (rowsA .u8 (bl ++ [x]))] = _; simp [renL, AV.ren, CC_ren, renL_rowsA]) (by simp [AV.ren, renL_ints]))) ?_
        refine ro rfl rfl (OpOk.step (ok_move (.inr rfl))) ?_
        refine ro_nil ?_
        refine keepK hK13 [2, 4, 7] (by dsimp) (by dsimp) ?_
        refine T.seq fun K14 hK14 => ?_
        refine T.region ?_ -- region 12
        refine ro rfl rfl (OpOk.step (ok_fieldAddr rfl ti_stripe_Buf rfl rfl ti_LLuint8 (by decide) rfl)) ?_
        refine ro rfl rfl (OpOk.step ((ok_store rfl ti_LLuint8 (by decide) rfl rfl rfl rfl rfl (Nat.le_of_ble_eq_true rfl) (.inr rfl)).eq (x' := .any) (H'' := [some ⟨13, true, [.agg (CC c ++ [.int (w + 1), .v (.slice none 0 0)])]⟩, some ⟨13, true, [.agg (CC c00 ++ [.int 0, .v (.slice none 0 0)])]⟩, none, some ⟨1, true, rowsA .u8 [x]⟩, some ⟨1, false, rowsA .u8 (bl ++ [x])⟩]) rfl rfl)) ?_
        refine ro_nil ?_
        refine keepK hK14 [2, 4, 7] (by dsimp) (by dsimp) ?_
        refine T.seq fun K15 hK15 => ?_
        refine T.region ?_ -- region 13
        refine ro rfl rfl (OpOk.step (ok_load rfl ti_stripe_Buf rfl rfl)) ?_
        refine ro rfl rfl (OpOk.step (ok_move (.inl rfl))) ?_
        refine ro rfl rfl (OpOk.step (ok_store rfl ti_stripe_Buf (by decide) rfl rfl rfl rfl rfl (by first | exact Nat.le_of_ble_eq_true rfl | simp) (by first | exact .inl ⟨rfl, rfl⟩ | exact .inr rfl))) ?_
        refine ro rfl rfl (OpOk.step (ok_move (.inr rfl))) ?_
        refine ro rfl rfl (OpOk.step (ok_move (.inr rfl))) ?_
        refine ro_nil ?_
        refine keepK hK15 [4, 5, 6] (by dsimp) (by dsimp) ?_
        refine T.ret (hQ _ _ _ rfl ?_).1 -- ret 4
        exact (TEnt.fin (tm' := [(0, .tup [.agg (CC c ++ [.int (w + 1), .v (.slice none 0 0)]), .fz 1 (ints .u8 (overC c (bl ++ [x]))), .int 0])]) [] (by decide) (by simp) rfl ⟨by show AV.ren _ (.tup [.agg (CC c ++ [.int (w + 1), .v (.slice none 0 0)]), .fz 1 (ints .u8 (overC c (bl ++ [x]))), .int 0]) = _; simp [AV.ren, renL, BufN_ren, renL_ints], trivial⟩).trans ((TEnt.put1 0 (ps_whole _ _ _ _)).trans (TEnt.to ⟨rfl, trivial⟩))
end Go.Proofs.Ytknhemdpfdopaaa.AmF
