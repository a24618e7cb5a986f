/- Walks over the abstract machine: the law StripeLacks. -/
import Derived.Test.YtknhemdpfdopaaaAfStripe6
namespace Go.Proofs.Ytknhemdpfdopaaa.AmF
open Go Go.AM
set_option maxRecDepth 100000
set_option linter.unusedSimpArgs false
set_option linter.unusedVariables false
attribute [local simp] tkeep tget tput ev cav argsTM pickA normT putA splice AV.cells ints_length rowsA_length fit_len zipx_len upd_len cs_len ovr_len fitL_len
theorem ok_slice_fz {P : Program} {tm : TM} {H : Heap} {o : Oper} {t : TypeId} {x lo hi : Operand} (ho : o.op = .slice t x (some lo) (some hi) none) {i : TI} (hi' : tyI P t = some i) {e : TypeId} (hd : i.desc = .slice e) {j : TI} (hj : tyI P e = some j) {es : Nat} {l : List AV} (hx : ev tm x = .fz es l) (hes : es = j.size) {a b : Nat} (ha : ev tm lo = .int a) (hb : ev tm hi = .int b) (hab : a ≤ b) (hbl : b ≤ l.length) : OpOk P tm H o (.fz es ((l.take b).drop a)) H :=
  ok_slice (sz := j.size) ho hi' (.inl ⟨e, j, hd, hj, rfl⟩) (zl := some a) (zh := some b) (zm := none) (by simp only [bndA]; rw [ha]) (by simp only [bndA]; rw [hb]) rfl (by
    rw [hx, hd]
    simp only [sliceA, Option.getD_some, Int.toNat_natCast]
    rw [if_pos ⟨hes, by omega, by omega, by omega⟩])
/-- The others at a place within their units, of the first n blocks. -/
def lk (u i k : Nat) (F : List (List Int)) : Nat → List (List Int)
  | 0 => []
  | n + 1 => if n % u = i ∧ n ≠ k then lk u i k F n ++ [F.getD n []] else lk u i k F n
theorem lk_same {u i k : Nat} {F : List (List Int)} {a : Nat} : ∀ {e : Nat}, a ≤ e → (∀ m, a ≤ m → m < e → m % u ≠ i) → lk u i k F e = lk u i k F a
  | e, hae, h => by
    rcases Nat.lt_or_ge a e with h1 | h1
    · obtain ⟨d, rfl⟩ : ∃ d, e = d + 1 := ⟨e - 1, by omega⟩
      show (if d % u = i ∧ d ≠ k then _ else _) = _
      rw [if_neg (fun h' => h d (by omega) (by omega) h'.1)]
      exact lk_same (by omega) fun m h2 h3 => h m h2 (by omega)
    · have : a = e := by omega
      rw [this]
theorem lk_mem {u i k : Nat} {F : List (List Int)} : ∀ {n : Nat} {l : List Int}, n ≤ F.length → l ∈ lk u i k F n → l ∈ F
  | n + 1, l, hn, h => by
    unfold lk at h
    split at h
    · rcases List.mem_append.1 h with h | h
      · exact lk_mem (by omega) h
      · rw [List.mem_singleton.1 h, List.getD_eq_getElem?_getD, List.getElem?_eq_getElem (show n < F.length by omega)]
        exact List.getElem_mem _
    · exact lk_mem (by omega) h
theorem lk_len (u i k : Nat) (F : List (List Int)) : ∀ n, (lk u i k F n).length ≤ n
  | 0 => Nat.le_refl _
  | n + 1 => by
    have := lk_len u i k F n
    unfold lk
    split
    · simp; omega
    · omega
theorem nx_one (l : List Int) (t s : Nat) : nx [l] t s = s ^^^ (l.getD t 0).toNat := rfl
theorem nx_lk {u i k : Nat} (F : List (List Int)) (hk : k % u = i) (t : Nat) : ∀ n, cn u i t F n = nx (lk u i k F n) t 0 ^^^ (if k < n then ((F.getD k []).getD t 0).toNat else 0)
  | 0 => by simp [cn, lk, nx]
  | n + 1 => by
    have ih := nx_lk F hk t n
    unfold lk
    rw [cn_next]
    by_cases h : n % u = i
    · rw [if_pos h]
      by_cases hn : n = k
      · subst hn
        rw [if_neg (by simp), if_pos (by omega), ih, if_neg (Nat.lt_irrefl _), Nat.xor_zero]
      · rw [if_pos ⟨h, hn⟩, nx_append, nx_one, ih]
        by_cases hk2 : k < n
        · rw [if_pos hk2, if_pos (by omega), Nat.xor_assoc, Nat.xor_assoc, Nat.xor_comm ((F.getD k []).getD t 0).toNat]
        · rw [if_neg hk2, if_neg (by omega), Nat.xor_zero, Nat.xor_zero]
    · have hn : n ≠ k := fun e => h (e ▸ hk)
      rw [if_neg h, if_neg (fun h' => h h'.1), ih]
      by_cases hk2 : k < n
      · rw [if_pos hk2, if_pos (by omega)]
      · rw [if_neg hk2, if_neg (by omega)]
/-- What lacks comes back. -/
theorem lk_law {u i k b : Nat} {F : List (List Int)} (hB : BB F) (hl : ∀ l ∈ F, l.length = b) (hk : k % u = i) {x : List Int} (hx : F[k]? = some x) : par (cs u i b F F.length :: lk u i k F F.length) = x := by
  have hkl := (List.getElem?_eq_some_iff.1 hx).1
  have hxd : F.getD k [] = x := by rw [List.getD_eq_getElem?_getD, hx]; rfl
  have hxm := List.mem_of_getElem? hx
  have hall : ∀ l ∈ cs u i b F F.length :: lk u i k F F.length, Bytes l := fun l h => by
    rcases List.mem_cons.1 h with rfl | h
    · exact cs_bytes u i b hB _
    · exact hB l (lk_mem (Nat.le_refl _) h)
  refine ext0 ?_ fun t => ?_
  · rw [hl x hxm]
    refine par_eq (by simp) fun l h => ?_
    rcases List.mem_cons.1 h with rfl | h
    · simp
    · exact hl l (lk_mem (Nat.le_refl _) h)
  · have h1 := par_get hall t
    have h2 : nx (cs u i b F F.length :: lk u i k F F.length) t 0 = nx (lk u i k F F.length) t (0 ^^^ ((cs u i b F F.length).getD t 0).toNat) := rfl
    have p1 := (byte_at (par_bytes hall) t).1
    have p2 := (byte_at (hB x hxm) t).1
    by_cases ht : t < b
    · rw [h2, nx_start, Nat.zero_xor, cs_get, if_pos ht, Int.toNat_natCast, nx_lk F hk t, if_pos hkl, hxd, Nat.xor_comm (nx _ t 0), Nat.xor_assoc, Nat.xor_self, Nat.xor_zero] at h1
      omega
    · have e1 : (par (cs u i b F F.length :: lk u i k F F.length)).getD t 0 = 0 := getD_none (by
        rw [par_eq (m := b) (by simp)]
        · omega
        · intro l h
          rcases List.mem_cons.1 h with rfl | h
          · simp
          · exact hl l (lk_mem (Nat.le_refl _) h))
      rw [e1, getD_none (by rw [hl x hxm]; omega)]
theorem ovr_row {u b : Nat} {ls : List (List Int)} {i : Nat} : ∀ {k : Nat}, i < k → ((ovr u b ls k).take ((i + 1) * b)).drop (i * b) = cs u i b ls ls.length
  | k + 1, h => by
    unfold ovr
    by_cases hi : i = k
    · subst hi
      rw [List.take_of_length_le (by simp [Nat.add_mul]), List.drop_append, List.drop_of_length_le (by simp)]
      simp
    · have h1 : (i + 1) * b ≤ k * b := Nat.mul_le_mul_right _ (by omega)
      rw [List.take_append_of_le_length (by simpa using h1)]
      exact ovr_row (by omega)
set_option maxHeartbeats 2000000 in
theorem stripeLacks_ok (c : Cf) (ls : List (List Int)) (q : Int) (hq : 0 ≤ q ∧ q < 256) (hB : BB ls) (hn : ls.length ≤ 140737488355328) (hl : ∀ l ∈ ls, l.length ≤ 140737488355328) : CSpec Try.prog 8 [] [.agg (CC c), .fz 1 (rowsA .u8 ls), .v (.int .u8 q)] [] (.b true) := by
  refine CSpec.body Try.func8 rfl rfl rfl rfl rfl fun Q hQ => ?_
  refine T.seq fun K1 hK1 => ?_
  refine T.region ?_ -- region 0
  refine ro rfl rfl (OpOk.step (ok_box (n := 11) rfl rfl (by decide))) ?_
  refine ro rfl rfl (OpOk.step (ok_moveb (c := false) (.inr rfl) rfl)) ?_
  refine ro_nil ?_
  refine keepK hK1 [1, 2, 3] (by dsimp) (by dsimp) ?_
  refine T.seq fun K2 hK2 => ?_
  refine T.seq fun K3 hK3 => ?_
  refine T.region ?_ -- region 1
  refine ro rfl rfl (OpOk.step (ok_move (.inl rfl))) ?_
  refine ro rfl rfl (ok_call rfl rfl rfl ((much15_ok ls hn hl).plain (by simp [renL, AV.ren, renL_rowsA]) rfl)) ?_
  refine ro_case rfl rfl (OpOk.step (ok_moveb (.inl rfl) rfl)) (fun hb => ?_) (fun hb => ?_)
  · (try simp only [decide_eq_true_eq, decide_eq_false_iff_not, beq_iff_eq, beq_eq_false_iff_ne, bne_iff_ne, bne_eq_false_iff_eq, ne_eq, Bool.not_eq_true', Bool.not_eq_false'] at hb)
    refine ro_skip rfl rfl ?_
    refine ro_skip rfl rfl ?_
    refine ro_skip rfl rfl ?_
    refine ro rfl rfl (OpOk.step (ok_pickb (t := true) (d := true) rfl rfl rfl)) ?_
    refine ro rfl rfl (OpOk.step (ok_moveb (c := true) (.inl rfl) rfl)) ?_
    refine ro_skip rfl rfl ?_
    refine ro_skip rfl rfl ?_
    refine ro_skip rfl rfl ?_
    refine ro rfl rfl (OpOk.step (ok_pickb (t := true) (d := true) rfl rfl rfl)) ?_
    refine ro rfl rfl (OpOk.step (ok_moveb (c := true) (.inl rfl) rfl)) ?_
    refine ro_skip rfl rfl ?_
    refine ro_skip rfl rfl ?_
    refine ro_skip rfl rfl ?_
    refine ro_skip rfl rfl ?_
    refine ro_skip rfl rfl ?_
    refine ro rfl rfl (OpOk.step (ok_pickb (t := true) (d := true) rfl rfl rfl)) ?_
    refine ro_nil ?_
    refine keepK hK3 [1, 2, 3, 31] (by dsimp) (by dsimp) ?_
    refine T.cond_true rfl ?_
    refine T.seq fun K4 hK4 => ?_
    refine T.region ?_ -- region 2
    refine ro rfl rfl (ok_call rfl rfl rfl (live15_ok.plain rfl rfl)) ?_
    refine ro rfl rfl (OpOk.step (ok_move (.inr rfl))) ?_
    refine ro_nil ?_
    refine keepK hK4 [6] (by dsimp) (by dsimp) ?_
    refine T.ret (hQ _ _ _ rfl ?_).1 -- ret 1
    exact TEnt.fin [] (by decide) (by simp) rfl ⟨rfl, trivial⟩
  · (try simp only [decide_eq_true_eq, decide_eq_false_iff_not, beq_iff_eq, beq_eq_false_iff_ne, bne_iff_ne, bne_eq_false_iff_eq, ne_eq, Bool.not_eq_true', Bool.not_eq_false'] at hb)
    refine ro rfl rfl (OpOk.step (ok_load rfl ti_api_Conf rfl rfl)) ?_
    refine ro rfl rfl (ok_call rfl rfl rfl ((small_ok c).plain (by simp [renL, AV.ren, CC_take', CC_ren]) rfl)) ?_
    refine ro rfl rfl (OpOk.step (ok_unOp rfl rfl)) ?_
    refine ro rfl rfl (OpOk.step (ok_pick rfl rfl)) ?_
    refine ro_case rfl rfl (OpOk.step (ok_moveb (.inl rfl) rfl)) (fun hb => ?_) (fun hb => ?_)
    · (try simp only [decide_eq_true_eq, decide_eq_false_iff_not, beq_iff_eq, beq_eq_false_iff_ne, bne_iff_ne, bne_eq_false_iff_eq, ne_eq, Bool.not_eq_true', Bool.not_eq_false'] at hb)
      refine ro_skip rfl rfl ?_
      refine ro_skip rfl rfl ?_
      refine ro_skip rfl rfl ?_
      refine ro rfl rfl (OpOk.step (ok_pickb (t := true) (d := true) rfl rfl rfl)) ?_
      refine ro rfl rfl (OpOk.step (ok_moveb (c := true) (.inl rfl) rfl)) ?_
      refine ro_skip rfl rfl ?_
      refine ro_skip rfl rfl ?_
      refine ro_skip rfl rfl ?_
      refine ro_skip rfl rfl ?_
      refine ro_skip rfl rfl ?_
      refine ro rfl rfl (OpOk.step (ok_pickb (t := true) (d := true) rfl rfl rfl)) ?_
      refine ro_nil ?_
      refine keepK hK3 [1, 2, 3, 31] (by dsimp) (by dsimp) ?_
      refine T.cond_true rfl ?_
      refine T.seq fun K5 hK5 => ?_
      refine T.region ?_ -- region 2
      refine ro rfl rfl (ok_call rfl rfl rfl (live15_ok.plain rfl rfl)) ?_
      refine ro rfl rfl (OpOk.step (ok_move (.inr rfl))) ?_
      refine ro_nil ?_
      refine keepK hK5 [6] (by dsimp) (by dsimp) ?_
      refine T.ret (hQ _ _ _ rfl ?_).1 -- ret 2
      exact TEnt.fin [] (by decide) (by simp) rfl ⟨rfl, trivial⟩
    · (try simp only [decide_eq_true_eq, decide_eq_false_iff_not, beq_iff_eq, beq_eq_false_iff_ne, bne_iff_ne, bne_eq_false_iff_eq, ne_eq, Bool.not_eq_true', Bool.not_eq_false'] at hb)
      refine ro rfl rfl (OpOk.step (ok_move (.inl rfl))) ?_
      refine ro rfl rfl (OpOk.step (ok_len' rfl rfl ti_LLuint8 rfl (by first | exact ints_length _ _ | exact rowsA_length _ _ | exact Cms_len _ | exact mapLen _ | rfl))) ?_
      refine ro rfl rfl (OpOk.step (ok_binOp rfl ti_int rfl)) ?_
      refine ro rfl rfl (OpOk.step (ok_pick rfl rfl)) ?_
      refine ro_case rfl rfl (OpOk.step (ok_moveb (.inl rfl) rfl)) (fun hb => ?_) (fun hb => ?_)
      · (try simp only [decide_eq_true_eq, decide_eq_false_iff_not, beq_iff_eq, beq_eq_false_iff_ne, bne_iff_ne, bne_eq_false_iff_eq, ne_eq, Bool.not_eq_true', Bool.not_eq_false'] at hb)
        refine ro_skip rfl rfl ?_
        refine ro_skip rfl rfl ?_
        refine ro_skip rfl rfl ?_
        refine ro_skip rfl rfl ?_
        refine ro_skip rfl rfl ?_
        refine ro rfl rfl (OpOk.step (ok_pickb (t := true) (d := true) rfl rfl rfl)) ?_
        refine ro_nil ?_
        refine keepK hK3 [1, 2, 3, 31] (by dsimp) (by dsimp) ?_
        refine T.cond_true rfl ?_
        refine T.seq fun K6 hK6 => ?_
        refine T.region ?_ -- region 2
        refine ro rfl rfl (ok_call rfl rfl rfl (live15_ok.plain rfl rfl)) ?_
        refine ro rfl rfl (OpOk.step (ok_move (.inr rfl))) ?_
        refine ro_nil ?_
        refine keepK hK6 [6] (by dsimp) (by dsimp) ?_
        refine T.ret (hQ _ _ _ rfl ?_).1 -- ret 3
        exact TEnt.fin [] (by decide) (by simp) rfl ⟨rfl, trivial⟩
      · (try simp only [decide_eq_true_eq, decide_eq_false_iff_not, beq_iff_eq, beq_eq_false_iff_ne, bne_iff_ne, bne_eq_false_iff_eq, ne_eq, Bool.not_eq_true', Bool.not_eq_false'] at hb)
        refine ro rfl rfl (OpOk.step (ok_move (.inl rfl))) ?_
        refine ro rfl rfl (OpOk.step (ok_len' rfl rfl ti_LLuint8 rfl (by first | exact ints_length _ _ | exact rowsA_length _ _ | exact Cms_len _ | exact mapLen _ | rfl))) ?_
        refine ro rfl rfl (OpOk.step (ok_load rfl ti_api_Conf rfl rfl)) ?_
        refine ro rfl rfl (ok_call rfl rfl rfl ((rrow_ok c).plain (by simp [renL, AV.ren, CC_take', CC_ren]) rfl)) ?_
        refine ro rfl rfl (OpOk.step (ok_binOp rfl ti_int rfl)) ?_
        refine ro rfl rfl (OpOk.step (ok_pick rfl rfl)) ?_
        refine ro_nil ?_
        refine keepK hK3 [1, 2, 3, 31] (by dsimp) (by dsimp) ?_
        refine T.cond rfl (fun hc => ?_) (fun hc => ?_) -- cond 1
        · (try simp only [decide_eq_true_eq, decide_eq_false_iff_not, beq_iff_eq, beq_eq_false_iff_ne, bne_iff_ne, bne_eq_false_iff_eq, ne_eq, Bool.not_eq_true', Bool.not_eq_false'] at hc)
          refine T.seq fun K7 hK7 => ?_
          refine T.region ?_ -- region 2
          refine ro rfl rfl (ok_call rfl rfl rfl (live15_ok.plain rfl rfl)) ?_
          refine ro rfl rfl (OpOk.step (ok_move (.inr rfl))) ?_
          refine ro_nil ?_
          refine keepK hK7 [6] (by dsimp) (by dsimp) ?_
          refine T.ret (hQ _ _ _ rfl ?_).1 -- ret 4
          exact TEnt.fin [] (by decide) (by simp) rfl ⟨rfl, trivial⟩
        · (try simp only [decide_eq_true_eq, decide_eq_false_iff_not, beq_iff_eq, beq_eq_false_iff_ne, bne_iff_ne, bne_eq_false_iff_eq, ne_eq, Bool.not_eq_true', Bool.not_eq_false'] at hc)
          have hfew : FewL ls := by simp_all
          have hsm : smallC c := by simp_all
          have hl8 := hfew.lens
          have hl50 := hfew.1
          have hchk := hsm.1
          obtain ⟨_, ⟨hu1, hu2⟩, ⟨hb1, hb2⟩, _, _⟩ := conf_bd hchk
          have hrb := row_bd hchk
          obtain ⟨u, hu⟩ := Int.eq_ofNat_of_zero_le (show 0 ≤ c.unit by omega)
          obtain ⟨b, hb⟩ := Int.eq_ofNat_of_zero_le (show 0 ≤ c.blk by omega)
          have hut : c.unit.toNat = u := by omega
          have hbt : c.blk.toNat = b := by omega
          have hrow : (ls.length : Int) ≤ rowC c := by first | omega | (simp_all; done)
          have hne : ls.length ≠ 0 := by first | omega | (simp_all; done)
          obtain ⟨q, rfl⟩ := Int.eq_ofNat_of_zero_le hq.1
          have hFB := fitL_BB (b := b) hB
          have hFl : ∀ x ∈ fitL ls b, x.length = b := fun x hx => fitL_mem hx
          have hFn : (fitL ls b).length = ls.length := fitL_len _ _
          generalize hF : fitL ls b = F at hFB hFl hFn
          have hov : overC c F = ovr u b F u := by unfold overC; rw [if_pos ⟨hchk, by omega⟩, hut, hbt]
          have hub := mul_le_nat (a := u) (A := 64) (b := b) (B := 4096) (by omega) (by omega)
          refine T.skip ?_
          refine keepK hK2 [1, 2, 3] (by dsimp) (by dsimp) ?_
          refine T.seq fun K8 hK8 => ?_
          refine T.region ?_ -- region 3
          refine ro rfl rfl (OpOk.step (ok_move (.inl rfl))) ?_
          refine ro rfl rfl (OpOk.step (ok_fieldAddr rfl ti_api_Conf rfl rfl ti_int (by decide) rfl)) ?_
          refine ro rfl rfl (OpOk.step (ok_load rfl ti_int rfl rfl)) ?_
          refine ro rfl rfl (ok_call rfl rfl rfl (((rfitL_frz ls b (by omega) (by omega)).plain (by simp [renL, AV.ren, renL_rowsA, hb]) (by simp [AV.ren, renL_rowsA])).eq (x' := .fz 1 (rowsA .u8 F)) (by rw [hF]) rfl)) ?_
          refine ro rfl rfl (OpOk.step (ok_move (.inr rfl))) ?_
          refine ro_nil ?_
          refine keepK hK8 [2, 3, 7] (by dsimp) (by dsimp) ?_
          refine T.seq fun K9 hK9 => ?_
          refine T.region ?_ -- region 4
          refine ro rfl rfl (OpOk.step (ok_move (.inl rfl))) ?_
          refine ro rfl rfl (OpOk.step ((ok_conv_int rfl ti_uint8 ti_int rfl rfl).eq (x' := .int q) (by rw [wrap_i64 (by omega) (by omega)]) rfl)) ?_
          refine ro rfl rfl (OpOk.step (ok_move (.inl rfl))) ?_
          refine ro rfl rfl (OpOk.step ((ok_len rfl rfl ti_LLuint8 rfl).eq (x' := .int ls.length) (by rw [rowsA_length, hFn]) rfl)) ?_
          refine ro rfl rfl (OpOk.step ((ok_rem64 rfl ti_int rfl rfl (by omega) (by omega)).eq (x' := .int (q % ls.length : Nat)) rfl rfl)) ?_
          refine ro rfl rfl (OpOk.step (ok_move (.inr rfl))) ?_
          refine ro_nil ?_
          refine keepK hK9 [3, 7, 8] (by dsimp) (by dsimp) ?_
          refine T.seq fun K10 hK10 => ?_
          have hkl : q % ls.length < ls.length := Nat.mod_lt _ (by omega)
          obtain ⟨k, hk⟩ : ∃ k, q % ls.length = k := ⟨_, rfl⟩
          rw [hk] at hkl
          rw [show (q : Int) % (ls.length : Int) = (k : Int) by rw [← hk]; rfl]
          obtain ⟨x, hx⟩ : ∃ x, F[k]? = some x := ⟨_, List.getElem?_eq_getElem (by omega)⟩
          refine T.region ?_ -- region 5
          refine ro rfl rfl (OpOk.step (ok_move (.inl rfl))) ?_
          refine ro rfl rfl (OpOk.step (ok_fieldAddr rfl ti_api_Conf rfl rfl ti_int (by decide) rfl)) ?_
          refine ro rfl rfl (OpOk.step (ok_load rfl ti_int rfl rfl)) ?_
          refine ro rfl rfl (OpOk.step ((ok_rem64 rfl ti_int rfl rfl (by omega) (by omega)).eq (x' := .int (k % u : Nat)) (by rw [hu]; rfl) rfl)) ?_
          refine ro rfl rfl (OpOk.step (ok_move (.inr rfl))) ?_
          refine ro_nil ?_
          refine keepK hK10 [3, 7, 8, 9] (by dsimp) (by dsimp) ?_
          refine T.seq fun K11 hK11 => ?_
          have hiu : k % u < u := Nat.mod_lt _ (by omega)
          obtain ⟨i, hi⟩ : ∃ i, k % u = i := ⟨_, rfl⟩
          rw [hi] at hiu
          rw [show (k : Int) % (u : Int) = (i : Int) by rw [← hi]; rfl]
          have hlaw := lk_law (b := b) hFB hFl hi hx
          have hrow2 := ovr_row (u := u) (b := b) (ls := F) hiu
          have hib := mul_le_nat (a := i) (A := 64) (b := b) (B := 4096) (by omega) (by omega)
          have hib1 := mul_le_nat (a := i + 1) (A := 64) (b := b) (B := 4096) (by omega) (by omega)
          have hib2 : (i + 1) * b ≤ u * b := Nat.mul_le_mul_right _ hiu
          have hib3 : i * b ≤ (i + 1) * b := Nat.mul_le_mul_right _ (by omega)
          refine T.region ?_ -- region 6
          refine ro rfl rfl (OpOk.step (ok_load rfl ti_api_Conf rfl rfl)) ?_
          refine ro rfl rfl (OpOk.step (ok_move (.inl rfl))) ?_
          refine ro rfl rfl (ok_call rfl rfl rfl (((over_frz c F hFB (by omega) (fun l h => by rw [hFl l h]; omega)).plain (by simp [renL, AV.ren, CC_take', CC_ren, renL_rowsA]) (by simp [AV.ren, renL_ints])).eq (x' := .fz 1 (ints .u8 (ovr u b F u))) (by rw [hov]) rfl)) ?_
          refine ro rfl rfl (OpOk.step (ok_move (.inr rfl))) ?_
          refine ro_nil ?_
          refine keepK hK11 [3, 7, 8, 9, 10] (by dsimp) (by dsimp) ?_
          refine T.seq fun K12 hK12 => ?_
          refine T.seq fun K13 hK13 => ?_
          refine T.region ?_ -- region 7
          refine ro rfl rfl (OpOk.step (ok_move (.inl rfl))) ?_
          refine ro rfl rfl (OpOk.step ((ok_len rfl rfl ti_Luint8 rfl).eq (x' := .int (u * b : Nat)) (by rw [ints_length, ovr_len]) rfl)) ?_
          refine ro rfl rfl (OpOk.step (ok_fieldAddr rfl ti_api_Conf rfl rfl ti_int (by decide) rfl)) ?_
          refine ro rfl rfl (OpOk.step (ok_load rfl ti_int rfl rfl)) ?_
          refine ro rfl rfl (OpOk.step (ok_fieldAddr rfl ti_api_Conf rfl rfl ti_int (by decide) rfl)) ?_
          refine ro rfl rfl (OpOk.step (ok_load rfl ti_int rfl rfl)) ?_
          refine ro rfl rfl (OpOk.step ((ok_mul64 rfl ti_int rfl rfl (by rw [hu, hb]; have := Int.natCast_mul u b; omega) (by rw [hu, hb]; have := Int.natCast_mul u b; omega)).eq (x' := .int (u * b : Nat)) (by rw [hu, hb]; rfl) rfl)) ?_
          refine ro rfl rfl (OpOk.step (OpOk.bool (d := false) (ok_binOp rfl ti_int rfl) (by simp))) ?_
          refine ro_nil ?_
          refine keepK hK13 [3, 7, 8, 9, 10, 56] (by dsimp) (by dsimp) ?_
          refine T.cond_false rfl ?_
          refine T.skip ?_
          refine keepK hK12 [3, 7, 8, 9, 10] (by dsimp) (by dsimp) ?_
          refine T.seq fun K14 hK14 => ?_
          refine T.region ?_ -- region 9
          refine ro rfl rfl (OpOk.step (ok_move (.inl rfl))) ?_
          refine ro rfl rfl (OpOk.step (ok_move (.inl rfl))) ?_
          refine ro rfl rfl (OpOk.step (ok_fieldAddr rfl ti_api_Conf rfl rfl ti_int (by decide) rfl)) ?_
          refine ro rfl rfl (OpOk.step (ok_load rfl ti_int rfl rfl)) ?_
          refine ro rfl rfl (OpOk.step ((ok_mul64 rfl ti_int rfl rfl (by rw [hb]; have := Int.natCast_mul i b; omega) (by rw [hb]; have := Int.natCast_mul i b; omega)).eq (x' := .int (i * b : Nat)) (by rw [hb]; rfl) rfl)) ?_
          refine ro rfl rfl (OpOk.step (ok_move (.inl rfl))) ?_
          refine ro rfl rfl (OpOk.step ((ok_add64 rfl ti_int rfl rfl (by omega) (by omega)).eq (x' := .int (i + 1 : Nat)) rfl rfl)) ?_
          refine ro rfl rfl (OpOk.step (ok_fieldAddr rfl ti_api_Conf rfl rfl ti_int (by decide) rfl)) ?_
          refine ro rfl rfl (OpOk.step (ok_load rfl ti_int rfl rfl)) ?_
          refine ro rfl rfl (OpOk.step ((ok_mul64 rfl ti_int rfl rfl (by rw [hb]; have := Int.natCast_mul (i + 1) b; omega) (by rw [hb]; have := Int.natCast_mul (i + 1) b; omega)).eq (x' := .int ((i + 1) * b : Nat)) (by rw [hb]; rfl) rfl)) ?_
          refine ro rfl rfl (OpOk.step ((ok_slice_fz (a := i * b) (b := (i + 1) * b) rfl ti_Luint8 rfl ti_uint8 rfl rfl rfl rfl hib3 (by simpa using hib2)).eq (x' := .fz 1 (ints .u8 (cs u i b F F.length))) (by rw [ints_take, ints_drop, hrow2]) rfl)) ?_
          refine ro rfl rfl (OpOk.step ((ok_buildSlice (n := 1) (ps := #[(0, .tmp 67)]) rfl ti_LLuint8 rfl ti_Luint8 (by decide) rfl rfl (by decide) rfl rfl rfl).eq (x' := .sl 1 0 1) (H'' := [some (CB c), some ⟨1, true, rowsA .u8 [cs u i b F F.length]⟩]) rfl rfl)) ?_
          refine ro rfl rfl (OpOk.step (ok_move (.inr rfl))) ?_
          refine ro_nil ?_
          refine keepK hK14 [3, 7, 8, 9, 11] (by dsimp) (by dsimp) ?_
          refine T.seq fun K15 hK15 => ?_
          refine T.seq fun K16 hK16 => ?_
          refine T.region ?_ -- region 10
          refine ro rfl rfl (OpOk.step (ok_move (.inl rfl))) ?_
          refine ro rfl rfl (OpOk.step (ok_move (.inr rfl))) ?_
          refine ro_nil ?_
          refine keepK hK16 [3, 7, 8, 11, 12] (by dsimp) (by dsimp) ?_
          refine T.block ?_
          refine T.loopI (ι := Nat) (fun j => j % u = i ∧ j < F.length + u) (fun j => F.length - j) (fun j => ([(3, .ref 0 0 0), (7, .fz 1 (rowsA .u8 F)), (8, .int k), (11, .sl 1 0 (cs u i b F F.length :: lk u i k F j).length), (12, .int j)], [some (CB c), some ⟨1, true, rowsA .u8 (cs u i b F F.length :: lk u i k F j)⟩])) i ⟨Nat.mod_eq_of_lt hiu, by omega⟩ (by
            have e : lk u i k F i = [] := (lk_same (Nat.zero_le _) fun m _ hm => by rw [Nat.mod_eq_of_lt (by omega)]; omega).trans rfl
            rw [e]
            exact TEnt.toH rfl ⟨rfl, rfl, rfl, rfl, rfl, trivial⟩) (fun i hi => ?_) -- loop 1
          rename Nat => j
          rename (_ ∧ _) => hj
          refine T.seq fun K17 hK17 => ?_
          refine T.seq fun K18 hK18 => ?_
          refine T.region ?_ -- region 11
          refine ro rfl rfl (OpOk.step (ok_move (.inl rfl))) ?_
          refine ro rfl rfl (OpOk.step (ok_move (.inl rfl))) ?_
          refine ro rfl rfl (OpOk.step (ok_len' rfl rfl ti_LLuint8 rfl (by first | exact ints_length _ _ | exact rowsA_length _ _ | exact Cms_len _ | exact mapLen _ | rfl))) ?_
          refine ro rfl rfl (OpOk.step (ok_binOp rfl ti_int rfl)) ?_
          refine ro_nil ?_
          refine keepK hK18 [3, 7, 8, 11, 12, 73] (by dsimp) (by dsimp) ?_
          refine T.cond rfl (fun hc => ?_) (fun hc => ?_) -- cond 2
          · (try simp only [decide_eq_true_eq, decide_eq_false_iff_not, beq_iff_eq, beq_eq_false_iff_ne, bne_iff_ne, bne_eq_false_iff_eq, ne_eq, Bool.not_eq_true', Bool.not_eq_false'] at hc)
            have hjl : j < F.length := by first | omega | (simp at hc; omega)
            obtain ⟨y, hy⟩ : ∃ y, F[j]? = some y := ⟨_, List.getElem?_eq_getElem hjl⟩
            have hyd : F.getD j [] = y := by rw [List.getD_eq_getElem?_getD, hy]; rfl
            have hlk : lk u i k F (j + 1) = if j % u = i ∧ j ≠ k then lk u i k F j ++ [y] else lk u i k F j := by rw [← hyd]; rfl
            have hnx : lk u i k F (j + u) = lk u i k F (j + 1) := lk_same (by omega) fun m h1 h2 e => by
              have h3 := hj.1
              have h4 := Nat.div_add_mod m u
              have h5 := Nat.div_add_mod j u
              rw [e] at h4
              rw [h3] at h5
              have h6 : u * (j / u) < u * (m / u) := by omega
              have h7 : j / u < m / u := Nat.lt_of_mul_lt_mul_left h6
              have h8 : u * (j / u + 1) ≤ u * (m / u) := Nat.mul_le_mul_left _ h7
              rw [Nat.mul_add, Nat.mul_one] at h8
              omega
            have hlkl := lk_len u i k F j
            refine T.skip ?_
            refine keepK hK17 [3, 7, 8, 11, 12] (by dsimp) (by dsimp) ?_
            refine T.seq fun K19 hK19 => ?_
            refine T.block ?_
            refine T.seq fun K20 hK20 => ?_
            refine T.region ?_ -- region 13
            refine ro rfl rfl (OpOk.step (ok_move (.inl rfl))) ?_
            refine ro rfl rfl (OpOk.step (ok_move (.inl rfl))) ?_
            refine ro rfl rfl (OpOk.step (ok_binOp rfl ti_int rfl)) ?_
            refine ro_nil ?_
            refine keepK hK20 [3, 7, 8, 11, 12, 80] (by dsimp) (by dsimp) ?_
            refine T.join hK19 [(3, .ref 0 0 0), (7, .fz 1 (rowsA .u8 F)), (8, .int k), (11, .sl 1 0 (cs u i b F F.length :: lk u i k F (j + u)).length), (12, .int j)] [some (CB c), some ⟨1, true, rowsA .u8 (cs u i b F F.length :: lk u i k F (j + u))⟩] (fun hJ21 => ?_) ?_ -- join 1
            · -- the two ways
              refine T.cond rfl (fun hc => ?_) (fun hc => ?_) -- cond 3
              · (try simp only [decide_eq_true_eq, decide_eq_false_iff_not, beq_iff_eq, beq_eq_false_iff_ne, bne_iff_ne, bne_eq_false_iff_eq, ne_eq, Bool.not_eq_true', Bool.not_eq_false'] at hc)
                have hjk : j ≠ k := by omega
                rw [if_pos ⟨hj.1, hjk⟩] at hlk
                refine T.region ?_ -- region 14
                refine ro rfl rfl (OpOk.step (ok_move (.inl rfl))) ?_
                refine ro rfl rfl (OpOk.step (ok_move (.inl rfl))) ?_
                refine ro rfl rfl (OpOk.step (ok_move (.inl rfl))) ?_
                refine ro rfl rfl (OpOk.step (by exact ok_index_fz rfl ti_LLuint8 rfl ti_Luint8 rfl rfl rfl (by omega) (rowsA_get_of (by simpa using hy)) rfl)) ?_
                refine ro rfl rfl (OpOk.step (ok_load rfl ti_Luint8 rfl rfl)) ?_
                refine ro rfl rfl (OpOk.step (ok_buildSlice (n := 1) (ps := #[(0, .tmp 85)]) rfl ti_LLuint8 rfl ti_Luint8 (by decide) rfl rfl (by decide) rfl rfl rfl)) ?_
                refine ro rfl rfl (OpOk.step ((ok_append_map (fun l => .fz 1 (ints .u8 l)) (xs := cs u i b F F.length :: lk u i k F j) (ys := [y]) rfl ti_LLuint8 rfl ti_Luint8 (by decide) (by decide) rfl ti_LLuint8 (by simp) rfl rfl rfl rfl rfl rfl rfl rfl rfl (by show (_ + 1) * 24 ≤ _; simp; omega)).eq (x' := .sl 3 0 (cs u i b F F.length :: lk u i k F (j + u)).length) (H'' := [some (CB c), none, some ⟨1, true, rowsA .u8 [y]⟩, some ⟨1, true, rowsA .u8 (cs u i b F F.length :: lk u i k F (j + u))⟩]) (by rw [hnx, hlk]; rfl) (by rw [hnx, hlk]; rfl))) ?_
                refine ro rfl rfl (OpOk.step (ok_move (.inr rfl))) ?_
                refine ro_nil ?_
                exact hJ21 _ _ (TEnt.fin [0, 3] (by decide) (by simp) (by show normH [0, 3] [some (CB c), none, some ⟨1, true, rowsA .u8 [y]⟩, some ⟨1, true, rowsA .u8 (cs u i b F F.length :: lk u i k F (j + u))⟩] = _; simp [normH, hget, CB_ren, Blk.ren, renL_rowsA]; exact CB_ren _ _) ⟨rfl, by simp [AV.ren, renL_rowsA], rfl, rfl, rfl, trivial⟩)
              · (try simp only [decide_eq_true_eq, decide_eq_false_iff_not, beq_iff_eq, beq_eq_false_iff_ne, bne_iff_ne, bne_eq_false_iff_eq, ne_eq, Bool.not_eq_true', Bool.not_eq_false'] at hc)
                have hjk : j = k := by omega
                rw [if_neg (fun h => h.2 hjk)] at hlk
                refine T.skip ?_
                exact hJ21 _ _ (TEnt.toH (by rw [hnx, hlk]) ⟨rfl, rfl, rfl, by rw [hnx, hlk]; rfl, rfl, trivial⟩)
            refine T.region ?_ -- region 12
            refine ro rfl rfl (OpOk.step (ok_move (.inl rfl))) ?_
            refine ro rfl rfl (OpOk.step (ok_fieldAddr rfl ti_api_Conf rfl rfl ti_int (by decide) rfl)) ?_
            refine ro rfl rfl (OpOk.step (ok_load rfl ti_int rfl rfl)) ?_
            refine ro rfl rfl (OpOk.step (ok_add64 rfl ti_int rfl rfl (by omega) (by omega))) ?_
            refine ro rfl rfl (OpOk.step (ok_move (.inr rfl))) ?_
            refine ro_nil ?_
            exact ⟨j + u, ⟨by rw [Nat.add_mod_right]; exact hj.1, by omega⟩, by omega, TEnt.toH rfl ⟨rfl, rfl, rfl, rfl, by show AV.int ((j : Int) + c.unit) = .int ((j + u : Nat) : Int); rw [hu]; rfl, trivial⟩⟩
          · (try simp only [decide_eq_true_eq, decide_eq_false_iff_not, beq_iff_eq, beq_eq_false_iff_ne, bne_iff_ne, bne_eq_false_iff_eq, ne_eq, Bool.not_eq_true', Bool.not_eq_false'] at hc)
            have hjl : F.length ≤ j := by first | omega | (simp at hc; omega)
            have hend : lk u i k F j = lk u i k F F.length := lk_same hjl fun m h1 h2 e => by
              have h3 := hj.1
              have h4 := Nat.div_add_mod m u
              have h5 := Nat.div_add_mod j u
              rw [e] at h4
              rw [h3] at h5
              have h6 : u * (m / u) < u * (j / u) := by omega
              have h7 : m / u < j / u := Nat.lt_of_mul_lt_mul_left h6
              have h8 : u * (m / u + 1) ≤ u * (j / u) := Nat.mul_le_mul_left _ h7
              rw [Nat.mul_add, Nat.mul_one] at h8
              omega
            rw [hend]
            have hmem : ∀ l ∈ cs u i b F F.length :: lk u i k F F.length, l.length ≤ 1000000000 := fun l h => by
              rcases List.mem_cons.1 h with rfl | h
              · simp; omega
              · rw [hFl l (lk_mem (Nat.le_refl _) h)]; omega
            have hlkl := lk_len u i k F F.length
            refine T.exit ?_
            refine keepK hK15 [7, 8, 11] (by dsimp) (by dsimp) ?_
            refine T.seq fun K22 hK22 => ?_
            refine T.ent ((TEnt.freeze 1 rfl).trans ((TEnt.put1 11 (Ent.sl0 (b := ⟨1, false, rowsA .u8 (cs u i b F F.length :: lk u i k F F.length)⟩) rfl rfl (by simp))).trans (TEnt.fin (tm' := [(7, .fz 1 (rowsA .u8 F)), (8, .int k), (11, .fz 1 (rowsA .u8 (cs u i b F F.length :: lk u i k F F.length)))]) (H' := []) [] (by decide) (by simp) rfl ⟨by simp [AV.ren, renL_rowsA], rfl, by simp [AV.ren, renL_rowsA], trivial⟩))) ?_
            refine T.drawH mixed [] ?_ -- region 15
            refine any_take 0 rfl (by first | rfl | decide +kernel) rfl (HeldL.refl _) (fun H' hH => OpOk.step (ok_move (.inl rfl))) ?_
            refine any_take 3 rfl (by first | rfl | decide +kernel) rfl (HeldL.refl _) (fun H' hH => OpOk.step (ok_move (.inl rfl))) ?_
            refine any_take 4 rfl (by first | rfl | decide +kernel) rfl (HeldL.refl _) (fun H' hH => OpOk.step (ok_move (.inl rfl))) ?_
            refine any_take 5 rfl (by first | rfl | decide +kernel) rfl (HeldL.refl _) (fun H' hH => OpOk.step (by exact ok_index_fz rfl ti_LLuint8 rfl ti_Luint8 rfl rfl rfl (by omega) (rowsA_get_of (by simpa using hx)) rfl)) ?_
            refine any_take 6 rfl (by first | rfl | decide +kernel) rfl (HeldL.refl _) (fun H' hH => OpOk.step (ok_load rfl ti_Luint8 (locA_held hH rfl) rfl)) ?_
            refine any_take 7 rfl (by first | rfl | decide +kernel) rfl (HeldL.refl _) (fun H' hH => OpOk.step (ok_conv_str rfl ti_Luint8 ti_string rfl ti_uint8 rfl rfl (rowA_held hH rfl) rfl (bytesOf_ints _))) ?_
            refine any_one 1 rfl (by first | rfl | decide +kernel) rfl rfl (ok_call rfl rfl rfl (((rof_ok (cs u i b F F.length :: lk u i k F F.length) (by simp; omega) hmem).plain (by simp [renL, AV.ren, renL_rowsA]) (by simp [AV.ren, renL_ints])).eq (x' := .fz 1 (ints .u8 x)) (by rw [hlaw]) rfl)) (.inr (by first | (simp [HeldL]; done) | (simp only [HeldL, List.map_cons, List.map_nil, List.cons_append, List.nil_append, List.set_cons_zero, List.set_cons_succ]; (repeat' first | trivial | rfl | constructor)))) ?_
            refine any_take 2 rfl (by first | rfl | decide +kernel) rfl (by first | exact HeldL.refl _ | exact HeldL.append _ _ | simp [HeldL]) (fun H' hH => OpOk.step (ok_conv_str rfl ti_Luint8 ti_string rfl ti_uint8 rfl rfl (rowA_held hH rfl) rfl (bytesOf_ints _))) ?_
            refine any_take 8 rfl (by first | rfl | decide +kernel) rfl (by first | exact HeldL.refl _ | exact HeldL.append _ _ | simp [HeldL]) (fun H' hH => OpOk.step ((ok_binOp rfl ti_string rfl).eq (x' := .b (strEq x x)) rfl rfl)) ?_
            refine any_take 9 rfl (by first | rfl | decide +kernel) rfl (by first | exact HeldL.refl _ | exact HeldL.append _ _ | simp [HeldL]) (fun H' hH => OpOk.step (OpOk.bool (d := true) (ok_moveb (.inl rfl) rfl) (by rw [strEq_refl]))) ?_
            refine any_one 10 rfl (by first | rfl | decide +kernel) rfl rfl (ok_call rfl rfl rfl (live15_ok.plain rfl rfl)) (.inr (by first | (simp [HeldL]; done) | (simp only [HeldL, List.map_cons, List.map_nil, List.cons_append, List.nil_append, List.set_cons_zero, List.set_cons_succ]; (repeat' first | trivial | rfl | constructor)))) ?_
            refine any_take 11 rfl (by first | rfl | decide +kernel) rfl (by first | exact HeldL.refl _ | exact HeldL.append _ _ | simp [HeldL]) (fun H' hH => OpOk.step (ok_pick rfl rfl)) ?_
            refine any_take 12 rfl (by first | rfl | decide +kernel) rfl (by first | exact HeldL.refl _ | exact HeldL.append _ _ | simp [HeldL]) (fun H' hH => OpOk.step (ok_move (.inr rfl))) ?_
            refine any_done rfl ?_
            refine keepK hK22 [6] (by dsimp) (by dsimp) ?_
            refine T.ret (hQ _ _ _ rfl ?_).1 -- ret 5
            exact TEnt.fin [] (by decide) (by simp) rfl ⟨rfl, trivial⟩
end Go.Proofs.Ytknhemdpfdopaaa.AmF
