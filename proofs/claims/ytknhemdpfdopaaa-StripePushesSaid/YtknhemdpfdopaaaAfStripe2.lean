/- Walks over the abstract machine: stripes, by the reference and by the program. -/
import Derived.Test.YtknhemdpfdopaaaAfStripe1
namespace Go.Proofs.Ytknhemdpfdopaaa.AmF
open Go Go.AM
set_option maxRecDepth 100000
set_option linter.unusedSimpArgs false
set_option linter.unusedVariables false
attribute [local simp] tkeep tget tput ev cav argsTM pickA normT putA splice AV.cells ints_length rowsA_length fit_len zipx_len upd_len cs_len ovr_len
theorem over_frz (c : Cf) (ls : List (List Int)) (hB : BB ls) (hn : ls.length ≤ 100000000) (hl : ∀ l ∈ ls, l.length ≤ 140737488355328) : CSpec Try.prog 46 [] [.agg (CC c), .fz 1 (rowsA .u8 ls)] [] (.fz 1 (ints .u8 (overC c ls))) := (over_new c ls hB hn hl).frz' rfl
theorem rrow_ok (c : Cf) : CSpec Try.prog 43 [] [.agg (CC c)] [] (.int (rowC c)) := by
  refine CSpec.body Try.func43 rfl rfl rfl rfl rfl fun Q hQ => ?_
  refine T.seq fun K1 hK1 => ?_
  refine T.region ?_ -- region 0
  refine ro rfl rfl (OpOk.step (ok_box (n := 11) rfl rfl (by decide))) ?_
  refine ro rfl rfl (OpOk.step (ok_move (.inr rfl))) ?_
  refine ro_nil ?_
  refine keepK hK1 [1] (by dsimp) (by dsimp) ?_
  refine T.seq fun K2 hK2 => ?_
  refine T.region ?_ -- region 1
  refine ro rfl rfl (OpOk.step (ok_load rfl ti_api_Conf rfl rfl)) ?_
  refine ro rfl rfl (ok_call rfl rfl rfl ((nums_ok c).plain rfl (by simp [AV.ren, renL_ints]))) ?_
  refine ro rfl rfl (OpOk.step (ok_index rfl ti_A7int rfl ti_int rfl rfl (by omega) (by omega) rfl)) ?_
  refine ro rfl rfl (OpOk.step (ok_move (.inr rfl))) ?_
  refine ro_nil ?_
  refine keepK hK2 [2] (by dsimp) (by dsimp) ?_
  refine T.ret (hQ _ _ _ rfl ?_).1 -- ret 1
  exact TEnt.fin [] (by decide) (by simp) rfl ⟨rfl, trivial⟩
theorem cn_next {u i t n : Nat} {ls : List (List Int)} : cn u i t ls (n + 1) = if n % u = i then cn u i t ls n ^^^ ((ls.getD n []).getD t 0).toNat else cn u i t ls n := rfl
theorem cs_at {u i b : Nat} {ls : List (List Int)} {n t : Nat} (h : t < b) : (cs u i b ls n)[t]? = some ((cn u i t ls n : Nat) : Int) := by simp [cs, List.getElem?_map, List.getElem?_range h]
set_option maxHeartbeats 2000000 in
theorem rover_new (c : Cf) (ls : List (List Int)) (hB : BB ls) (hn : ls.length ≤ 100000000) (hl : ∀ l ∈ ls, l.length ≤ 140737488355328) : CSpec Try.prog 50 [] [.agg (CC c), .fz 1 (rowsA .u8 ls)] [some ⟨1, true, ints .u8 (overC c ls)⟩] (.sl 0 0 (overC c ls).length) := by
  refine CSpec.body Try.func50 rfl rfl rfl rfl rfl fun Q hQ => ?_
  refine T.seq fun K1 hK1 => ?_
  refine T.region ?_ -- region 0
  refine ro rfl rfl (OpOk.step (ok_box (n := 11) rfl rfl (by decide))) ?_
  refine ro rfl rfl (OpOk.step (ok_move (.inr rfl))) ?_
  refine ro_nil ?_
  refine keepK hK1 [1, 2] (by dsimp) (by dsimp) ?_
  refine T.seq fun K2 hK2 => ?_
  refine T.seq fun K3 hK3 => ?_
  refine T.region ?_ -- region 1
  refine ro rfl rfl (OpOk.step (ok_load rfl ti_api_Conf rfl rfl)) ?_
  refine ro rfl rfl (ok_call rfl rfl rfl ((rcheck_ok c).plain (by simp [renL, AV.ren, CC_take', CC_ren]) rfl)) ?_
  refine ro rfl rfl (OpOk.step (ok_binOp rfl ti_int rfl)) ?_
  refine ro_case rfl rfl (OpOk.step (ok_moveb (.inl rfl) rfl)) (fun hb => ?_) (fun hb => ?_)
  · (try simp only [decide_eq_true_eq, decide_eq_false_iff_not, beq_iff_eq, beq_eq_false_iff_ne, bne_iff_ne, bne_eq_false_iff_eq, ne_eq, Bool.not_eq_true', Bool.not_eq_false'] at hb)
    refine ro_skip rfl rfl ?_
    refine ro_skip rfl rfl ?_
    refine ro_skip rfl rfl ?_
    refine ro_skip rfl rfl ?_
    refine ro_skip rfl rfl ?_
    refine ro rfl rfl (OpOk.step (ok_pickb (t := true) (d := true) rfl rfl rfl)) ?_
    refine ro_nil ?_
    refine keepK hK3 [1, 2, 19] (by dsimp) (by dsimp) ?_
    refine T.cond_true rfl ?_
    refine T.seq fun K4 hK4 => ?_
    refine T.region ?_ -- region 2
    refine ro rfl rfl (OpOk.step (ok_move (.inr rfl))) ?_
    refine ro_nil ?_
    refine keepK hK4 [4] (by dsimp) (by dsimp) ?_
    refine T.ret (hQ _ _ _ rfl ?_).1 -- ret 1
    have e : overC c ls = [] := by unfold overC; rw [if_neg]; rintro ⟨h1, h2⟩; first | omega | (simp_all; done)
    rw [e]
    exact (TEnt.empty 0 1 (by decide) (.inr rfl)).trans (TEnt.fin [1] (by decide) (by simp) rfl ⟨rfl, trivial⟩)
  · (try simp only [decide_eq_true_eq, decide_eq_false_iff_not, beq_iff_eq, beq_eq_false_iff_ne, bne_iff_ne, bne_eq_false_iff_eq, ne_eq, Bool.not_eq_true', Bool.not_eq_false'] at hb)
    refine ro rfl rfl (OpOk.step (ok_move (.inl rfl))) ?_
    refine ro rfl rfl (OpOk.step (ok_len' rfl rfl ti_LLuint8 rfl (by first | exact ints_length _ _ | exact rowsA_length _ _ | exact Cms_len _ | exact mapLen _ | rfl))) ?_
    refine ro rfl rfl (OpOk.step (ok_load rfl ti_api_Conf rfl rfl)) ?_
    refine ro rfl rfl (ok_call rfl rfl rfl ((rrow_ok c).plain (by simp [renL, AV.ren, CC_take', CC_ren]) rfl)) ?_
    refine ro rfl rfl (OpOk.step (ok_binOp rfl ti_int rfl)) ?_
    refine ro rfl rfl (OpOk.step (ok_pick rfl rfl)) ?_
    refine ro_nil ?_
    refine keepK hK3 [1, 2, 19] (by dsimp) (by dsimp) ?_
    refine T.cond rfl (fun hc => ?_) (fun hc => ?_) -- cond 1
    · (try simp only [decide_eq_true_eq, decide_eq_false_iff_not, beq_iff_eq, beq_eq_false_iff_ne, bne_iff_ne, bne_eq_false_iff_eq, ne_eq, Bool.not_eq_true', Bool.not_eq_false'] at hc)
      refine T.seq fun K5 hK5 => ?_
      refine T.region ?_ -- region 2
      refine ro rfl rfl (OpOk.step (ok_move (.inr rfl))) ?_
      refine ro_nil ?_
      refine keepK hK5 [4] (by dsimp) (by dsimp) ?_
      refine T.ret (hQ _ _ _ rfl ?_).1 -- ret 2
      have e : overC c ls = [] := by unfold overC; rw [if_neg]; rintro ⟨h1, h2⟩; first | omega | (simp_all; done)
      rw [e]
      exact (TEnt.empty 0 1 (by decide) (.inr rfl)).trans (TEnt.fin [1] (by decide) (by simp) rfl ⟨rfl, trivial⟩)
    · (try simp only [decide_eq_true_eq, decide_eq_false_iff_not, beq_iff_eq, beq_eq_false_iff_ne, bne_iff_ne, bne_eq_false_iff_eq, ne_eq, Bool.not_eq_true', Bool.not_eq_false'] at hc)
      refine T.skip ?_
      refine keepK hK2 [1, 2] (by dsimp) (by dsimp) ?_
      refine T.seq fun K6 hK6 => ?_
      have hchk : chkC c = 0 := by first | omega | (simp_all; done)
      have hrow : (ls.length : Int) ≤ rowC c := by first | omega | (simp_all; done)
      obtain ⟨_, ⟨hu1, hu2⟩, ⟨hb1, hb2⟩, _, _⟩ := conf_bd hchk
      have hrb := row_bd hchk
      have hov : overC c ls = ovr c.unit.toNat c.blk.toNat ls c.unit.toNat := if_pos ⟨hchk, hrow⟩
      rw [hov] at hQ
      obtain ⟨u, hu⟩ := Int.eq_ofNat_of_zero_le (show 0 ≤ c.unit by omega)
      obtain ⟨b, hb⟩ := Int.eq_ofNat_of_zero_le (show 0 ≤ c.blk by omega)
      have hut : c.unit.toNat = u := by omega
      have hbt : c.blk.toNat = b := by omega
      rw [hut, hbt] at hQ
      refine T.region ?_ -- region 3
      refine ro rfl rfl (OpOk.step (ok_move (.inr rfl))) ?_
      refine ro_nil ?_
      refine keepK hK6 [1, 2, 5] (by dsimp) (by dsimp) ?_
      refine T.seq fun K7 hK7 => ?_
      refine T.seq fun K8 hK8 => ?_
      refine T.region ?_ -- region 4
      refine ro rfl rfl (OpOk.step (ok_move (.inr rfl))) ?_
      refine ro_nil ?_
      refine keepK hK8 [1, 2, 5, 6] (by dsimp) (by dsimp) ?_
      refine T.block ?_
      refine T.loopI (ι := Nat) (fun i => i ≤ u) (fun i => u - i) (fun i => ([(1, .fz 1 (rowsA .u8 ls)), (2, .ref 0 0 0), (5, .sl 1 0 (ovr u b ls i).length), (6, .int i)], [some (CB c), some ⟨1, true, ints .u8 (ovr u b ls i)⟩])) 0 (Nat.zero_le _) ((TEnt.empty 5 1 (by decide) (.inr rfl)).trans (TEnt.toH rfl ⟨rfl, rfl, rfl, rfl, trivial⟩)) (fun i hi => ?_) -- loop 1
      rename Nat => q
      rename q ≤ u => hq
      have hovl := ovr_len u b ls q
      have hqb := mul_le_nat (a := q) (A := 64) (b := b) (B := 4096) (by omega) (by omega)
      refine T.seq fun K9 hK9 => ?_
      refine T.seq fun K10 hK10 => ?_
      refine T.region ?_ -- region 5
      refine ro rfl rfl (OpOk.step (ok_move (.inl rfl))) ?_
      refine ro rfl rfl (OpOk.step (ok_fieldAddr rfl ti_api_Conf rfl rfl ti_int (by decide) rfl)) ?_
      refine ro rfl rfl (OpOk.step (ok_load rfl ti_int rfl rfl)) ?_
      refine ro rfl rfl (OpOk.step (ok_binOp rfl ti_int rfl)) ?_
      refine ro_nil ?_
      refine keepK hK10 [1, 2, 5, 6, 23] (by dsimp) (by dsimp) ?_
      refine T.cond rfl (fun hc => ?_) (fun hc => ?_) -- cond 2
      · (try simp only [decide_eq_true_eq, decide_eq_false_iff_not, beq_iff_eq, beq_eq_false_iff_ne, bne_iff_ne, bne_eq_false_iff_eq, ne_eq, Bool.not_eq_true', Bool.not_eq_false'] at hc)
        refine T.skip ?_
        refine keepK hK9 [1, 2, 5, 6] (by dsimp) (by dsimp) ?_
        refine T.seq fun K11 hK11 => ?_
        refine T.block ?_
        refine T.seq fun K12 hK12 => ?_
        refine T.region ?_ -- region 7
        refine ro rfl rfl (OpOk.step (ok_move (.inr rfl))) ?_
        refine ro_nil ?_
        refine keepK hK12 [1, 2, 5, 6, 7] (by dsimp) (by dsimp) ?_
        refine T.block ?_
        refine T.loopI (ι := Nat) (fun k => k ≤ b) (fun k => b - k) (fun k => ([(1, .fz 1 (rowsA .u8 ls)), (2, .ref 0 0 0), (5, .sl 1 0 (ovr u b ls q ++ (cs u q b ls ls.length).take k).length), (6, .int q), (7, .int k)], [some (CB c), some ⟨1, true, ints .u8 (ovr u b ls q ++ (cs u q b ls ls.length).take k)⟩])) 0 (Nat.zero_le _) (TEnt.toH (by simp) ⟨rfl, rfl, by simp, rfl, rfl, trivial⟩) (fun i hi => ?_) -- loop 2
        rename Nat => k
        rename k ≤ b => hk
        refine T.seq fun K13 hK13 => ?_
        refine T.seq fun K14 hK14 => ?_
        refine T.region ?_ -- region 8
        refine ro rfl rfl (OpOk.step (ok_move (.inl rfl))) ?_
        refine ro rfl rfl (OpOk.step (ok_fieldAddr rfl ti_api_Conf rfl rfl ti_int (by decide) rfl)) ?_
        refine ro rfl rfl (OpOk.step (ok_load rfl ti_int rfl rfl)) ?_
        refine ro rfl rfl (OpOk.step (ok_binOp rfl ti_int rfl)) ?_
        refine ro_nil ?_
        refine keepK hK14 [1, 2, 5, 6, 7, 29] (by dsimp) (by dsimp) ?_
        refine T.cond rfl (fun hc => ?_) (fun hc => ?_) -- cond 3
        · (try simp only [decide_eq_true_eq, decide_eq_false_iff_not, beq_iff_eq, beq_eq_false_iff_ne, bne_iff_ne, bne_eq_false_iff_eq, ne_eq, Bool.not_eq_true', Bool.not_eq_false'] at hc)
          refine T.skip ?_
          refine keepK hK13 [1, 2, 5, 6, 7] (by dsimp) (by dsimp) ?_
          refine T.seq fun K15 hK15 => ?_
          refine T.block ?_
          refine T.seq fun K16 hK16 => ?_
          refine T.region ?_ -- region 10
          refine ro rfl rfl (OpOk.step (ok_move (.inr rfl))) ?_
          refine ro_nil ?_
          refine keepK hK16 [1, 2, 5, 6, 7, 8] (by dsimp) (by dsimp) ?_
          refine T.seq fun K17 hK17 => ?_
          refine T.seq fun K18 hK18 => ?_
          refine T.region ?_ -- region 11
          refine ro rfl rfl (OpOk.step (ok_move (.inr rfl))) ?_
          refine ro_nil ?_
          refine keepK hK18 [1, 2, 5, 6, 7, 8, 9] (by dsimp) (by dsimp) ?_
          refine T.block ?_
          refine T.loopI (ι := Nat) (fun n => n ≤ ls.length) (fun n => ls.length - n) (fun n => ([(1, .fz 1 (rowsA .u8 ls)), (2, .ref 0 0 0), (5, .sl 1 0 (ovr u b ls q ++ (cs u q b ls ls.length).take k).length), (6, .int q), (7, .int k), (8, .v (.int .u8 (cn u q k ls n : Nat))), (9, .int n)], [some (CB c), some ⟨1, true, ints .u8 (ovr u b ls q ++ (cs u q b ls ls.length).take k)⟩])) 0 (Nat.zero_le _) (TEnt.toH rfl ⟨rfl, rfl, rfl, rfl, rfl, rfl, rfl, trivial⟩) (fun i hi => ?_) -- loop 3
          rename Nat => n
          rename n ≤ ls.length => hnl
          refine T.seq fun K19 hK19 => ?_
          refine T.seq fun K20 hK20 => ?_
          refine T.region ?_ -- region 12
          refine ro rfl rfl (OpOk.step (ok_move (.inl rfl))) ?_
          refine ro rfl rfl (OpOk.step (ok_move (.inl rfl))) ?_
          refine ro rfl rfl (OpOk.step (ok_len' rfl rfl ti_LLuint8 rfl (by first | exact ints_length _ _ | exact rowsA_length _ _ | exact Cms_len _ | exact mapLen _ | rfl))) ?_
          refine ro rfl rfl (OpOk.step (ok_binOp rfl ti_int rfl)) ?_
          refine ro_nil ?_
          refine keepK hK20 [1, 2, 5, 6, 7, 8, 9, 35] (by dsimp) (by dsimp) ?_
          refine T.cond rfl (fun hc => ?_) (fun hc => ?_) -- cond 4
          · (try simp only [decide_eq_true_eq, decide_eq_false_iff_not, beq_iff_eq, beq_eq_false_iff_ne, bne_iff_ne, bne_eq_false_iff_eq, ne_eq, Bool.not_eq_true', Bool.not_eq_false'] at hc)
            obtain ⟨x, hx⟩ : ∃ x, ls[n]? = some x := ⟨_, List.getElem?_eq_getElem (by omega)⟩
            have hxm := List.mem_of_getElem? hx
            have hxd : ls.getD n [] = x := by rw [List.getD_eq_getElem?_getD, hx]; rfl
            have hcn := cn_next (u := u) (i := q) (t := k) (n := n) (ls := ls)
            rw [hxd] at hcn
            have hlt := cn_lt u q k hB n
            have hxl := hl x hxm
            refine T.skip ?_
            refine keepK hK19 [1, 2, 5, 6, 7, 8, 9] (by dsimp) (by dsimp) ?_
            refine T.seq fun K21 hK21 => ?_
            refine T.block ?_
            refine T.seq fun K22 hK22 => ?_
            refine T.region ?_ -- region 14
            refine ro rfl rfl (OpOk.step (ok_move (.inl rfl))) ?_
            refine ro rfl rfl (OpOk.step (ok_fieldAddr rfl ti_api_Conf rfl rfl ti_int (by decide) rfl)) ?_
            refine ro rfl rfl (OpOk.step (ok_load rfl ti_int rfl rfl)) ?_
            refine ro rfl rfl (OpOk.step ((ok_rem64 rfl ti_int rfl rfl (by omega) (by omega)).eq (x' := .int ((n % u : Nat) : Int)) (by rw [hu]; rfl) rfl)) ?_
            refine ro rfl rfl (OpOk.step (ok_move (.inl rfl))) ?_
            refine ro rfl rfl (OpOk.step (ok_binOp rfl ti_int rfl)) ?_
            refine ro_case rfl rfl (OpOk.step (ok_moveb (.inl rfl) rfl)) (fun hb => ?_) (fun hb => ?_)
            · (try simp only [decide_eq_true_eq, decide_eq_false_iff_not, beq_iff_eq, beq_eq_false_iff_ne, bne_iff_ne, bne_eq_false_iff_eq, ne_eq, Bool.not_eq_true', Bool.not_eq_false'] at hb)
              have hnu : n % u = q := by omega
              rw [if_pos hnu] at hcn
              refine ro rfl rfl (OpOk.step (ok_move (.inl rfl))) ?_
              refine ro rfl rfl (OpOk.step (ok_move (.inl rfl))) ?_
              refine ro rfl rfl (OpOk.step (ok_move (.inl rfl))) ?_
              refine ro rfl rfl (OpOk.step (by exact ok_index_fz rfl ti_LLuint8 rfl ti_Luint8 rfl rfl rfl (by omega) (rowsA_get_of (by simpa using hx)) rfl)) ?_
              refine ro rfl rfl (OpOk.step (ok_load rfl ti_Luint8 rfl rfl)) ?_
              refine ro rfl rfl (OpOk.step (ok_len' rfl rfl ti_Luint8 rfl (by first | exact ints_length _ _ | exact rowsA_length _ _ | exact Cms_len _ | exact mapLen _ | rfl))) ?_
              refine ro rfl rfl (OpOk.step (ok_binOp rfl ti_int rfl)) ?_
              refine ro rfl rfl (OpOk.step (ok_pick rfl rfl)) ?_
              refine ro_nil ?_
              refine keepK hK22 [1, 2, 5, 6, 7, 8, 9, 52] (by dsimp) (by dsimp) ?_
              refine T.join hK21 [(1, .fz 1 (rowsA .u8 ls)), (2, .ref 0 0 0), (5, .sl 1 0 (ovr u b ls q ++ (cs u q b ls ls.length).take k).length), (6, .int q), (7, .int k), (8, .v (.int .u8 (cn u q k ls (n + 1) : Nat))), (9, .int n)] [some (CB c), some ⟨1, true, ints .u8 (ovr u b ls q ++ (cs u q b ls ls.length).take k)⟩] (fun hJ23 => ?_) ?_ -- join 1
              · -- the two ways
                refine T.cond rfl (fun hc => ?_) (fun hc => ?_) -- cond 5
                · (try simp only [decide_eq_true_eq, decide_eq_false_iff_not, beq_iff_eq, beq_eq_false_iff_ne, bne_iff_ne, bne_eq_false_iff_eq, ne_eq, Bool.not_eq_true', Bool.not_eq_false'] at hc)
                  obtain ⟨y, hy⟩ : ∃ y, x[k]? = some y := ⟨_, List.getElem?_eq_getElem (by omega)⟩
                  have hyd : x.getD k 0 = y := by rw [List.getD_eq_getElem?_getD, hy]; rfl
                  rw [hyd] at hcn
                  have hyb := hB x hxm y (List.mem_of_getElem? hy)
                  obtain ⟨yn, hyn⟩ := Int.eq_ofNat_of_zero_le hyb.1
                  have hX : Go.bits .xor .u8 ((cn u q k ls n : Nat) : Int) y = ((cn u q k ls (n + 1) : Nat) : Int) := by
                    rw [hcn, hyn]
                    exact X_nat _ _ hlt (by omega)
                  refine T.region ?_ -- region 15
                  refine ro rfl rfl (OpOk.step (ok_move (.inl rfl))) ?_
                  refine ro rfl rfl (OpOk.step (ok_move (.inl rfl))) ?_
                  refine ro rfl rfl (OpOk.step (ok_move (.inl rfl))) ?_
                  refine ro rfl rfl (OpOk.step (by exact ok_index_fz rfl ti_LLuint8 rfl ti_Luint8 rfl rfl rfl (by omega) (rowsA_get_of (by simpa using hx)) rfl)) ?_
                  refine ro rfl rfl (OpOk.step (ok_load rfl ti_Luint8 rfl rfl)) ?_
                  refine ro rfl rfl (OpOk.step (ok_move (.inl rfl))) ?_
                  refine ro rfl rfl (OpOk.step (by exact ok_index_ints rfl ti_Luint8 rfl ti_uint8 rfl rfl rfl (by omega) (by simpa using hy))) ?_
                  refine ro rfl rfl (OpOk.step (ok_load rfl ti_uint8 rfl rfl)) ?_
                  refine ro rfl rfl (OpOk.step (ok_bits .xor rfl ti_uint8 rfl rfl (.inr (.inr rfl)))) ?_
                  refine ro rfl rfl (OpOk.step (ok_move (.inr rfl))) ?_
                  refine ro_nil ?_
                  exact hJ23 _ _ (TEnt.toH rfl ⟨rfl, rfl, rfl, rfl, rfl, by dsimp; rw [hX], rfl, trivial⟩)
                · (try simp only [decide_eq_true_eq, decide_eq_false_iff_not, beq_iff_eq, beq_eq_false_iff_ne, bne_iff_ne, bne_eq_false_iff_eq, ne_eq, Bool.not_eq_true', Bool.not_eq_false'] at hc)
                  refine T.skip ?_
                  exact hJ23 _ _ (TEnt.toH rfl ⟨rfl, rfl, rfl, rfl, rfl, by rw [hcn, getD_none (show x.length ≤ k by omega)]; simp, rfl, trivial⟩)
              refine T.region ?_ -- region 13
              refine ro rfl rfl (OpOk.step (ok_move (.inl rfl))) ?_
              refine ro rfl rfl (OpOk.step (ok_add64 rfl ti_int rfl rfl (by omega) (by omega))) ?_
              refine ro rfl rfl (OpOk.step (ok_move (.inr rfl))) ?_
              refine ro_nil ?_
              first
                | exact ⟨n + 1, by omega, by omega, TEnt.toH rfl ⟨rfl, rfl, rfl, rfl, rfl, rfl, rfl, trivial⟩⟩
                | exact ⟨n + 1, by omega, by omega, TEnt.toH rfl ⟨rfl, rfl, rfl, rfl, rfl, by rw [hcn]; rfl, rfl, trivial⟩⟩
            · (try simp only [decide_eq_true_eq, decide_eq_false_iff_not, beq_iff_eq, beq_eq_false_iff_ne, bne_iff_ne, bne_eq_false_iff_eq, ne_eq, Bool.not_eq_true', Bool.not_eq_false'] at hb)
              have hnu : ¬ n % u = q := by omega
              rw [if_neg hnu] at hcn
              refine ro_skip rfl rfl ?_
              refine ro_skip rfl rfl ?_
              refine ro_skip rfl rfl ?_
              refine ro_skip rfl rfl ?_
              refine ro_skip rfl rfl ?_
              refine ro_skip rfl rfl ?_
              refine ro_skip rfl rfl ?_
              refine ro rfl rfl (OpOk.step (ok_pickb (t := false) (d := false) rfl rfl rfl)) ?_
              refine ro_nil ?_
              refine keepK hK22 [1, 2, 5, 6, 7, 8, 9, 52] (by dsimp) (by dsimp) ?_
              refine T.cond_false rfl ?_
              refine T.skip ?_
              refine keepK hK21 [1, 2, 5, 6, 7, 8, 9] (by dsimp) (by dsimp) ?_
              refine T.region ?_ -- region 13
              refine ro rfl rfl (OpOk.step (ok_move (.inl rfl))) ?_
              refine ro rfl rfl (OpOk.step (ok_add64 rfl ti_int rfl rfl (by omega) (by omega))) ?_
              refine ro rfl rfl (OpOk.step (ok_move (.inr rfl))) ?_
              refine ro_nil ?_
              first
                | exact ⟨n + 1, by omega, by omega, TEnt.toH rfl ⟨rfl, rfl, rfl, rfl, rfl, rfl, rfl, trivial⟩⟩
                | exact ⟨n + 1, by omega, by omega, TEnt.toH rfl ⟨rfl, rfl, rfl, rfl, rfl, by rw [hcn]; rfl, rfl, trivial⟩⟩
          · (try simp only [decide_eq_true_eq, decide_eq_false_iff_not, beq_iff_eq, beq_eq_false_iff_ne, bne_iff_ne, bne_eq_false_iff_eq, ne_eq, Bool.not_eq_true', Bool.not_eq_false'] at hc)
            have hnn : n = ls.length := by omega
            subst hnn
            have hkb : k < b := by omega
            have htk := take_succ_get (cs_at (u := u) (i := q) (b := b) (ls := ls) (n := ls.length) hkb)
            refine T.exit ?_
            refine keepK hK17 [1, 2, 5, 6, 7, 8] (by dsimp) (by dsimp) ?_
            refine T.region ?_ -- region 16
            refine ro rfl rfl (OpOk.step (ok_move (.inl rfl))) ?_
            refine ro rfl rfl (OpOk.step (ok_move (.inl rfl))) ?_
            refine ro rfl rfl (OpOk.step (ok_buildSlice (n := 1) (ps := #[(0, .tmp 63)]) rfl ti_Luint8 rfl ti_uint8 (by decide) rfl rfl (by decide) rfl rfl rfl)) ?_
            refine ro rfl rfl (OpOk.step (by exact ok_append_ints (k := .u8) (xs := ovr u b ls q ++ (cs u q b ls ls.length).take k) (ys := [((cn u q k ls ls.length : Nat) : Int)]) rfl ti_Luint8 rfl ti_uint8 rfl (by decide) rfl ti_Luint8 (by simp) rfl rfl rfl rfl rfl rfl rfl rfl (by simp) (by show (_ + _) * 1 ≤ _; simp; omega))) ?_
            refine ro rfl rfl (OpOk.step (ok_move (.inr rfl))) ?_
            refine ro_nil ?_
            refine keepK hK15 [1, 2, 5, 6, 7] (by dsimp) (by dsimp) ?_
            refine T.region ?_ -- region 9
            refine ro rfl rfl (OpOk.step (ok_move (.inl rfl))) ?_
            refine ro rfl rfl (OpOk.step (ok_add64 rfl ti_int rfl rfl (by omega) (by omega))) ?_
            refine ro rfl rfl (OpOk.step (ok_move (.inr rfl))) ?_
            refine ro_nil ?_
            exact ⟨k + 1, by omega, by omega, TEnt.fin [0, 3] (by decide) (by simp) (by rw [htk, ← List.append_assoc]; simp [normH, hget, CB_ren, IB_ren]) ⟨by simp [AV.ren, renL_rowsA], rfl, by rw [htk, ← List.append_assoc]; rfl, rfl, rfl, trivial⟩⟩
        · (try simp only [decide_eq_true_eq, decide_eq_false_iff_not, beq_iff_eq, beq_eq_false_iff_ne, bne_iff_ne, bne_eq_false_iff_eq, ne_eq, Bool.not_eq_true', Bool.not_eq_false'] at hc)
          have hkb : k = b := by omega
          have hall : (cs u q b ls ls.length).take k = cs u q b ls ls.length := by rw [hkb, List.take_of_length_le (by simp)]
          refine T.exit ?_
          refine keepK hK11 [1, 2, 5, 6] (by dsimp) (by dsimp) ?_
          refine T.region ?_ -- region 6
          refine ro rfl rfl (OpOk.step (ok_move (.inl rfl))) ?_
          refine ro rfl rfl (OpOk.step (ok_add64 rfl ti_int rfl rfl (by omega) (by omega))) ?_
          refine ro rfl rfl (OpOk.step (ok_move (.inr rfl))) ?_
          refine ro_nil ?_
          exact ⟨q + 1, by omega, by omega, TEnt.toH (by rw [hall]; rfl) ⟨rfl, rfl, by rw [hall]; rfl, rfl, trivial⟩⟩
      · (try simp only [decide_eq_true_eq, decide_eq_false_iff_not, beq_iff_eq, beq_eq_false_iff_ne, bne_iff_ne, bne_eq_false_iff_eq, ne_eq, Bool.not_eq_true', Bool.not_eq_false'] at hc)
        have hin : q = u := by omega
        subst hin
        refine T.exit ?_
        refine keepK hK7 [5] (by dsimp) (by dsimp) ?_
        refine T.seq fun K24 hK24 => ?_
        refine T.region ?_ -- region 17
        refine ro rfl rfl (OpOk.step (ok_move (.inl rfl))) ?_
        refine ro rfl rfl (OpOk.step (ok_move (.inr rfl))) ?_
        refine ro_nil ?_
        refine keepK hK24 [4] (by dsimp) (by dsimp) ?_
        refine T.ret (hQ _ _ _ rfl ?_).1 -- ret 3
        exact TEnt.fin [1] (by decide) (by simp) (by simp [normH, hget, IB_ren]) ⟨rfl, trivial⟩
theorem rover_frz (c : Cf) (ls : List (List Int)) (hB : BB ls) (hn : ls.length ≤ 100000000) (hl : ∀ l ∈ ls, l.length ≤ 140737488355328) : CSpec Try.prog 50 [] [.agg (CC c), .fz 1 (rowsA .u8 ls)] [] (.fz 1 (ints .u8 (overC c ls))) := (rover_new c ls hB hn hl).frz' rfl
end Go.Proofs.Ytknhemdpfdopaaa.AmF
