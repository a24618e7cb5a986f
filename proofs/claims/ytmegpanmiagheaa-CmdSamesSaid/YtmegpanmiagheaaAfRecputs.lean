/- Walks over the abstract machine: records put and got again. -/
import Derived.Test.YtmegpanmiagheaaAfRecget
namespace Go.Proofs.Ytmegpanmiagheaa.AmF
open Go Go.AM
set_option maxRecDepth 100000
set_option linter.unusedSimpArgs false
set_option linter.unusedVariables false
attribute [local simp] tkeep tget tput ev cav argsTM pickA normT putA splice AV.cells ints_length rowsA_length enc_len
/-- A row that an operation makes, frozen as it comes. -/
theorem _root_.Go.AM.OpOk.frz {P : Program} {tm : TM} {H H' : Heap} {o : Oper} {id n es : Nat} {own : Bool} {l : List AV} (h : OpOk P tm H o (.sl id 0 n) H') (hg : hget H' id = some ⟨es, own, l⟩) (hl : l.length = n) : OpOk P tm H o (.fz es l) (H'.set id (some ⟨es, false, l⟩)) := by
  intro g a hH hgo ht
  obtain ⟨v, g1, h1, h2, h3, h4, h5⟩ := h g a hH hgo ht
  subst h2
  have he : TEnt g1.H.length [(0, AV.sl id 0 n)] g1.H [(0, .fz es l)] (g1.H.set id (some ⟨es, false, l⟩)) :=
    (TEnt.freeze id hg).trans ((TEnt.put1 0 (Ent.sl0 (b := ⟨es, false, l⟩) (by rw [hget_set, if_pos ⟨rfl, hget_lt hg⟩]) rfl hl)).trans (TEnt.to ⟨rfl, trivial⟩))
  obtain ⟨g2, k1, k2, k3, k4, k5, k6⟩ := he g1 (fun _ => v) rfl (Nat.le_refl _) h3 (fun t => by
    simp only [tget]
    split
    · exact h4
    · simp [Rel])
  have k4' := k4 0
  simp only [tget, if_true] at k4'
  have hsub : Sub g1 g2 := ⟨⟨k5.z, fun b _ => by rw [k1], fun i j hi hj => by cases hj; exact ⟨Nat.lt_of_lt_of_le hi k6.len, fun k' hk' => k6.id i k' hi hk'⟩⟩, k5⟩
  refine ⟨v, g2, ?_, k2, k3, k4', h5.trans hsub⟩
  rw [k1]; exact h1
theorem rdF_encs {L rest : List Int} {lo hi : Nat → Int} (hI : ∀ x ∈ L, I64 x) (hb : ∀ i v, L[i]? = some v → lo i ≤ v ∧ v ≤ hi i) : ∀ n, n ≤ L.length →
    rdF (encs L ++ rest) lo hi n = (8 * n, 0) ∧ ∀ j, j < n → rdFV (encs L ++ rest) lo hi j = L.getD j 0
  | 0, _ => ⟨rfl, fun j hj => absurd hj (Nat.not_lt_zero _)⟩
  | n + 1, h => by
    obtain ⟨h1, h2⟩ := rdF_encs (rest := rest) hI hb n (by omega)
    obtain ⟨x, hx⟩ : ∃ x, L[n]? = some x := ⟨_, List.getElem?_eq_getElem (by omega)⟩
    have hr := ri_encs (rest := rest) (lo := lo n) (hi := hi n) hx (hI x (List.mem_of_getElem? hx))
    have hbx := hb n x hx
    have hno : ¬ (x < lo n ∨ hi n < x) := by omega
    rw [if_neg hno, if_neg hno] at hr
    have hgd : L.getD n 0 = x := by rw [List.getD_eq_getElem?_getD, hx]; rfl
    refine ⟨?_, fun j hj => ?_⟩
    · show ((ri _ (rdF (encs L ++ rest) lo hi n).1 (rdF (encs L ++ rest) lo hi n).2 (lo n) (hi n)).1, (ri _ (rdF (encs L ++ rest) lo hi n).1 (rdF (encs L ++ rest) lo hi n).2 (lo n) (hi n)).2.1) = _
      rw [h1, hr]
      rfl
    · rcases Nat.lt_or_ge j n with hjn | hjn
      · exact h2 j hjn
      · obtain rfl : j = n := by omega
        show (ri _ (rdF (encs L ++ rest) lo hi j).1 (rdF (encs L ++ rest) lo hi j).2 (lo j) (hi j)).2.2 = _
        rw [h1, hr, hgd]
theorem pad_len {n k : Nat} (hk : 1 ≤ k) : n + (k - n % k) % k = (n + k - 1) / k * k := by
  have h1 := Nat.div_add_mod n k
  have h2 := Nat.mod_lt n (show k > 0 by omega)
  generalize n / k = q at h1
  generalize hr : n % k = r at h1 h2
  rcases Nat.eq_zero_or_pos r with h0 | h0
  · rw [h0, Nat.sub_zero, Nat.mod_self]
    have : n + k - 1 = (k - 1) + k * q := by omega
    rw [this, Nat.add_mul_div_left _ _ (by omega), Nat.div_eq_of_lt (by omega), Nat.zero_add, Nat.mul_comm]
    omega
  · rw [Nat.mod_eq_of_lt (a := k - r) (by omega)]
    have : n + k - 1 = (r - 1) + k * (q + 1) := by rw [Nat.mul_add]; omega
    rw [this, Nat.add_mul_div_left _ _ (by omega), Nat.div_eq_of_lt (by omega), Nat.zero_add, Nat.mul_comm, Nat.mul_add]
    omega
theorem zeroB_rep (n : Nat) : zeroB (List.replicate n 0) = true := by simp [zeroB]
theorem PR_I64 {x : Rc} (h : PR x) : ∀ v ∈ x.l, I64 v := by
  intro v hv
  obtain ⟨i, hi⟩ := List.getElem?_of_mem hv
  have h1 := PR_nine hi h
  have h5 : -1 ≤ v := by
    rcases h1.2 with h2 | h2
    · omega
    · subst h2
      simp [Rc.l] at hi
      subst hi
      unfold PR at h
      omega
  exact ⟨by omega, by omega⟩
theorem parse_pay {x : Rc} (h : PR x) : parOk (payR x) ∧ xr (payR x) = x := by
  have hb : ∀ i v, x.l[i]? = some v → rLo i ≤ v ∧ v ≤ rHi i := by
    intro i v hv
    have hi : i < 9 := (List.getElem?_eq_some_iff.1 hv).1
    unfold PR at h
    match i, hi with
    | 0, _ | 1, _ | 2, _ | 3, _ | 4, _ | 5, _ | 6, _ | 7, _ | 8, _ => simp [Rc.l] at hv; subst hv; simp [rLo, rHi]; omega
  have hbl : x.body.length ≤ 1048576 := by unfold PR at h; omega
  obtain ⟨k, hk⟩ : ∃ k, x.l.length = k := ⟨_, rfl⟩
  have hk9 : 9 = k := hk
  have hd := rdF_encs (rest := enc x.body.length 8 ++ x.body) (lo := rLo) (hi := rHi) (PR_I64 h) hb k (Nat.le_of_eq hk.symm)
  have hlen : (encs x.l).length = 8 * k := by rw [encs_len, hk]
  have he : payR x = encs x.l ++ (enc x.body.length 8 ++ x.body) := by simp [payR]
  have hl := payR_len x
  rw [← he] at hd
  have hrb := rb_enc (l := payR x) (a := encs x.l) (b := []) (x := x.body) (m := 1048576) (p := 8 * k) hlen.symm (by rw [he]; simp) (by omega) (by omega)
  have hgd : ∀ j, j < k → rdFV (payR x) rLo rHi j = x.l.getD j 0 := hd.2
  have hd1 := hd.1
  subst hk9
  have hB : rBody (payR x) = (72 + 8 + x.body.length, 0, x.body) := by
    unfold rBody
    rw [hd1]
    exact hrb
  refine ⟨⟨by rw [hB], by rw [hB, hl]⟩, ?_⟩
  have e : ∀ (f : Nat → Int) (b : List Int), (∀ j, j < 9 → f j = x.l.getD j 0) → b = x.body → (⟨f 0, f 1, f 2, f 3, f 4, f 5, f 6, f 7, f 8, b⟩ : Rc) = x := by
    intro f b hf hb
    cases x
    simp only [Rc.mk.injEq]
    exact ⟨hf 0 (by decide), hf 1 (by decide), hf 2 (by decide), hf 3 (by decide), hf 4 (by decide), hf 5 (by decide), hf 6 (by decide), hf 7 (by decide), hf 8 (by decide), hb⟩
  exact e (rdFV (payR x) rLo rHi) _ hgd (by rw [hB])
theorem getR_put {x : Rc} {k : Int} {more : List Int} (h : PR x) (hk : 1 ≤ k ∧ k ≤ 4096) : getR (putR x k ++ more) k = (x, ((putR x k).length : Int) / k, 0) ∧ ((putR x k).length : Int) / k * k = (putR x k).length := by
  rw [putR_good ⟨h, hk⟩]
  obtain ⟨hpo, hxr⟩ := parse_pay h
  have hpl := payR_len x
  have hbl : x.body.length ≤ 1048576 := by unfold PR at h; omega
  obtain ⟨n, rfl⟩ := Int.eq_ofNat_of_zero_le (show 0 ≤ k by omega)
  generalize payR x = p at hpo hxr hpl
  have hcb := crcV_bd p
  have hhl := headR_len p
  obtain ⟨z, hz⟩ : ∃ z, (n - (headR p ++ p).length % n) % n = z := ⟨_, rfl⟩
  have hpad : padL (headR p ++ p) (n : Int).toNat = (headR p ++ p) ++ List.replicate z 0 := by unfold padL; rw [Int.toNat_natCast, hz]
  have hlen : (16 + p.length) + z = (16 + p.length + n - 1) / n * n := by
    rw [← hz, List.length_append, hhl]
    exact pad_len (by omega)
  rw [hpad]
  obtain ⟨l, hl⟩ : ∃ l, (headR p ++ p) ++ List.replicate z 0 ++ more = l := ⟨_, rfl⟩
  have hbl2 : ((headR p ++ p) ++ List.replicate z 0).length = 16 + p.length + z := by simp [hhl]; omega
  have ht16 : l.take 16 = headR p := by
    rw [← hl, List.append_assoc, List.append_assoc]
    exact List.take_left' hhl
  have q0 : gQ0 l = (8, 0, (p.length : Int)) := by
    have := ri_enc (l := headR p) (a := []) (b := enc (crcV p) 8) (v := p.length) (lo := 0) (hi := 1048656) (p := 0) rfl rfl ⟨by omega, by omega⟩
    unfold gQ0
    rw [ht16, this]
    have hc : ¬ ((p.length : Int) < 0 ∨ 1048656 < (p.length : Int)) := by omega
    rw [if_neg hc, if_neg hc]
  have q1 : gQ1 l = (16, 0, crcV p) := by
    have := ri_enc (l := headR p) (a := enc p.length 8) (b := []) (v := crcV p) (lo := -9223372036854775808) (hi := 9223372036854775807) (p := 8) (by simp) (by simp [headR]) ⟨by omega, by omega⟩
    unfold gQ1
    rw [ht16, q0, this]
    have hc : ¬ (crcV p < -9223372036854775808 ∨ 9223372036854775807 < crcV p) := by omega
    rw [if_neg hc, if_neg hc]
  have hgN : gN l = p.length := by unfold gN; rw [q0]
  have hgM : gM l n = ((16 + p.length + n - 1) / n : Nat) := by
    unfold gM
    rw [hgN]
    have : (16 : Int) + p.length + n - 1 = ((16 + p.length + n - 1 : Nat) : Int) := by omega
    rw [this]
    simp
  have hmk : gM l n * n = (16 + p.length + z : Nat) := by
    rw [hgM, ← Int.natCast_mul, ← hlen]
  have hgP : gP l = p := by
    unfold gP
    rw [hgN]
    have e1 : ((16 : Int) + p.length).toNat = 16 + p.length := by omega
    have e2 : l.take (16 + p.length) = headR p ++ p := by
      rw [← hl, List.append_assoc]
      exact List.take_left' (by simp [hhl])
    rw [e1, e2]
    exact List.drop_left' hhl
  have hgT : gT l n = List.replicate z 0 := by
    unfold gT
    rw [hgN, hmk]
    have e1 : ((16 : Int) + p.length).toNat = 16 + p.length := by omega
    have e2 : l.take (16 + p.length + z) = (headR p ++ p) ++ List.replicate z 0 := by
      rw [← hl]
      exact List.take_left' (by simp [hhl]; omega)
    rw [e1, Int.toNat_natCast, e2]
    exact List.drop_left' (by simp [hhl])
  have hll : 16 + p.length + z ≤ l.length := by
    rw [← hl, List.length_append, hbl2]
    omega
  have hq : (((headR p ++ p) ++ List.replicate z 0).length : Int) / n = gM l n := by
    rw [hbl2, ← hmk]
    exact Int.mul_ediv_cancel _ (by omega)
  rw [hq, hbl2, hmk, hl]
  refine ⟨?_, rfl⟩
  rw [getR_7 hk (by omega) (by rw [q1]; simp) (by rw [hmk]; omega) (by rw [q1, hgP]; simp) ⟨by rw [hgP]; exact hpo, by rw [hgT]; exact zeroB_rep z⟩, hgP, hxr]
theorem code10_ok (e : Int) : CSpec Try.prog 89 [] [.int e] [] (.int e) := by
  refine CSpec.body Try.func89 rfl rfl rfl rfl rfl fun Q hQ => ?_
  refine T.seq fun K1 hK1 => ?_
  refine T.region ?_ -- region 0
  refine ro rfl rfl (OpOk.step (ok_move (.inr rfl))) ?_
  refine ro_nil ?_
  refine keepK hK1 [0] (by dsimp) (by dsimp) ?_
  refine T.seq fun K2 hK2 => ?_
  refine T.region ?_ -- region 1
  refine ro rfl rfl (OpOk.step (ok_move (.inl rfl))) ?_
  refine ro rfl rfl (OpOk.step (ok_move (.inr rfl))) ?_
  refine ro_nil ?_
  refine keepK hK2 [2] (by dsimp) (by dsimp) ?_
  refine T.ret (hQ _ _ _ rfl ?_).1 -- ret 1
  exact TEnt.toH rfl ⟨rfl, trivial⟩
theorem recPuts_ok (x : Rc) (k : Int) (m : List Int) (hB : Bytes x.body) (hl : x.body.length ≤ 140737488355328) (hM : Bytes m) (hml : m.length ≤ 140737488355328) : CSpec Try.prog 16 [] [.agg (RcC x), .int k, .fz 1 (ints .u8 m)] [] (.b true) := by
  obtain ⟨b, hb0⟩ : ∃ b, putR x k = b := ⟨_, rfl⟩
  have hbl : b.length ≤ 2000000 := hb0 ▸ putR_len x k
  have hbB : Bytes b := by
    rw [← hb0]
    unfold putR
    split
    · refine ((((enc_bytes _ _).append (enc_bytes _ _)).append (payR_bytes hB)).append ?_)
      intro y hy
      rw [List.eq_of_mem_replicate hy]
      decide
    · exact Bytes.nil
  refine CSpec.body Try.func16 rfl rfl rfl rfl rfl fun Q hQ => ?_
  refine T.seq fun K1 hK1 => ?_
  refine T.region ?_ -- region 0
  refine ro rfl rfl (OpOk.step (ok_box (n := 10) rfl rfl (by decide))) ?_
  refine ro rfl rfl (OpOk.step (ok_moveb (c := false) (.inr rfl) rfl)) ?_
  refine ro_nil ?_
  refine keepK hK1 [1, 2, 3] (by dsimp) (by dsimp) ?_
  refine T.seq fun K2 hK2 => ?_
  refine T.seq fun K3 hK3 => ?_
  refine T.region ?_ -- region 1
  refine ro rfl rfl (OpOk.step (ok_fieldAddr rfl ti_api_Rec rfl rfl ti_Luint8 (by decide) rfl)) ?_
  refine ro rfl rfl (OpOk.step (ok_load rfl ti_Luint8 rfl rfl)) ?_
  refine ro rfl rfl (OpOk.step (ok_len' rfl rfl ti_Luint8 rfl (by first | exact ints_length _ _ | exact rowsA_length _ _ | rfl))) ?_
  refine ro rfl rfl (OpOk.step (ok_binOp rfl ti_int rfl)) ?_
  refine ro_case rfl rfl (OpOk.step (ok_moveb (.inl rfl) rfl)) (fun hb => ?_) (fun hb => ?_)
  · (try simp only [decide_eq_true_eq, decide_eq_false_iff_not, beq_iff_eq, beq_eq_false_iff_ne, bne_iff_ne, bne_eq_false_iff_eq, ne_eq, Bool.not_eq_true', Bool.not_eq_false'] at hb)
    refine ro_skip rfl rfl ?_
    refine ro_skip rfl rfl ?_
    refine ro_skip rfl rfl ?_
    refine ro rfl rfl (OpOk.step (ok_pickb (t := true) (d := true) rfl rfl rfl)) ?_
    refine ro_nil ?_
    refine keepK hK3 [1, 2, 3, 19] (by dsimp) (by dsimp) ?_
    refine T.cond_true rfl ?_
    refine T.seq fun K4 hK4 => ?_
    refine T.region ?_ -- region 2
    refine ro rfl rfl (ok_call rfl rfl rfl (live10_ok.plain rfl rfl)) ?_
    refine ro rfl rfl (OpOk.step (ok_move (.inr rfl))) ?_
    refine ro_nil ?_
    refine keepK hK4 [6] (by dsimp) (by dsimp) ?_
    refine T.ret (hQ _ _ _ rfl ?_).1 -- ret 1
    exact TEnt.fin [] (by decide) (by simp) rfl ⟨rfl, trivial⟩
  · (try simp only [decide_eq_true_eq, decide_eq_false_iff_not, beq_iff_eq, beq_eq_false_iff_ne, bne_iff_ne, bne_eq_false_iff_eq, ne_eq, Bool.not_eq_true', Bool.not_eq_false'] at hb)
    refine ro rfl rfl (OpOk.step (ok_move (.inl rfl))) ?_
    refine ro rfl rfl (OpOk.step (ok_len' rfl rfl ti_Luint8 rfl (by first | exact ints_length _ _ | exact rowsA_length _ _ | rfl))) ?_
    refine ro rfl rfl (OpOk.step (ok_binOp rfl ti_int rfl)) ?_
    refine ro rfl rfl (OpOk.step (ok_pick rfl rfl)) ?_
    refine ro_nil ?_
    refine keepK hK3 [1, 2, 3, 19] (by dsimp) (by dsimp) ?_
    refine T.cond rfl (fun hc => ?_) (fun hc => ?_) -- cond 1
    · (try simp only [decide_eq_true_eq, decide_eq_false_iff_not, beq_iff_eq, beq_eq_false_iff_ne, bne_iff_ne, bne_eq_false_iff_eq, ne_eq, Bool.not_eq_true', Bool.not_eq_false'] at hc)
      refine T.seq fun K5 hK5 => ?_
      refine T.region ?_ -- region 2
      refine ro rfl rfl (ok_call rfl rfl rfl (live10_ok.plain rfl rfl)) ?_
      refine ro rfl rfl (OpOk.step (ok_move (.inr rfl))) ?_
      refine ro_nil ?_
      refine keepK hK5 [6] (by dsimp) (by dsimp) ?_
      refine T.ret (hQ _ _ _ rfl ?_).1 -- ret 2
      exact TEnt.fin [] (by decide) (by simp) rfl ⟨rfl, trivial⟩
    · (try simp only [decide_eq_true_eq, decide_eq_false_iff_not, beq_iff_eq, beq_eq_false_iff_ne, bne_iff_ne, bne_eq_false_iff_eq, ne_eq, Bool.not_eq_true', Bool.not_eq_false'] at hc)
      refine T.skip ?_
      refine keepK hK2 [1, 2, 3] (by dsimp) (by dsimp) ?_
      refine T.seq fun K6 hK6 => ?_
      refine T.region ?_ -- region 3
      refine ro rfl rfl (OpOk.step (ok_load rfl ti_api_Rec rfl rfl)) ?_
      refine ro rfl rfl (OpOk.step (ok_move (.inl rfl))) ?_
      refine ro rfl rfl (ok_call rfl rfl rfl (((put_ok x k hB hl).plain (by show renL (pos []) [.agg (RcC x), .int k] = _; simp [renL, AV.ren, RcC_ren]) (by simp [AV.ren, renL_ints])).eq (x' := .fz 1 (ints .u8 b)) (by rw [hb0]) rfl)) ?_
      refine ro rfl rfl (OpOk.step (ok_move (.inr rfl))) ?_
      refine ro_nil ?_
      refine keepK hK6 [1, 2, 3, 7] (by dsimp) (by dsimp) ?_
      refine T.seq fun K7 hK7 => ?_
      refine T.seq fun K8 hK8 => ?_
      refine T.drawH mixed [] ?_ -- region 4
      refine any_take 0 rfl (by first | rfl | decide +kernel) rfl (HeldL.refl _) (fun H' hH => OpOk.step (ok_load rfl ti_api_Rec (locA_held hH rfl) rfl)) ?_
      refine any_take 2 rfl (by first | rfl | decide +kernel) rfl (HeldL.refl _) (fun H' hH => OpOk.step (ok_load rfl ti_api_Rec (locA_held hH rfl) rfl)) ?_
      refine any_one 1 rfl (by first | rfl | decide +kernel) rfl rfl (ok_call rfl rfl rfl ((right_ok x hl).plain (by show renL (pos []) [.agg (RcC x)] = _; simp [renL, AV.ren, RcC_ren]) rfl)) (.inr (by first | (simp [HeldL]; done) | (simp [HeldL]; rfl))) ?_
      refine any_one 3 rfl (by first | rfl | decide +kernel) rfl rfl (ok_call rfl rfl rfl ((rright_ok x hl).plain (by show renL (pos []) [.agg (RcC x)] = _; simp [renL, AV.ren, RcC_ren]) rfl)) (.inr (by first | (simp [HeldL]; done) | (simp [HeldL]; rfl))) ?_
      refine any_take 4 rfl (by first | rfl | decide +kernel) rfl (by first | exact HeldL.refl _ | exact HeldL.append _ _ | simp [HeldL]) (fun H' hH => OpOk.step (OpOk.bool (d := false) (ok_binOp rfl ti_bool rfl) (by simp))) ?_
      refine any_take 5 rfl (by first | rfl | decide +kernel) rfl (by first | exact HeldL.refl _ | exact HeldL.append _ _ | simp [HeldL]) (fun H' hH => OpOk.step (ok_moveb (c := false) (.inl rfl) rfl)) ?_
      refine any_take 6 rfl (by first | rfl | decide +kernel) rfl (by first | exact HeldL.refl _ | exact HeldL.append _ _ | simp [HeldL]) (fun H' hH => OpOk.step (ok_move (.inl rfl))) ?_
      refine any_take 7 rfl (by first | rfl | decide +kernel) rfl (by first | exact HeldL.refl _ | exact HeldL.append _ _ | simp [HeldL]) (fun H' hH => OpOk.step (ok_conv_str rfl ti_Luint8 ti_string rfl ti_uint8 rfl rfl (rowA_held hH rfl) rfl (bytesOf_ints _))) ?_
      refine any_take 8 rfl (by first | rfl | decide +kernel) rfl (by first | exact HeldL.refl _ | exact HeldL.append _ _ | simp [HeldL]) (fun H' hH => OpOk.step (ok_load rfl ti_api_Rec (locA_held hH rfl) rfl)) ?_
      refine any_take 9 rfl (by first | rfl | decide +kernel) rfl (by first | exact HeldL.refl _ | exact HeldL.append _ _ | simp [HeldL]) (fun H' hH => OpOk.step (ok_move (.inl rfl))) ?_
      refine any_one 10 rfl (by first | rfl | decide +kernel) rfl rfl (ok_call rfl rfl rfl (((rrput_ok x k hB hl).plain (by show renL (pos []) [.agg (RcC x), .int k] = _; simp [renL, AV.ren, RcC_ren]) (by simp [AV.ren, renL_ints])).eq (x' := .fz 1 (ints .u8 b)) (by rw [hb0]) rfl)) (.inr (by first | (simp [HeldL]; done) | (simp [HeldL]; rfl))) ?_
      refine any_take 11 rfl (by first | rfl | decide +kernel) rfl (by first | exact HeldL.refl _ | exact HeldL.append _ _ | simp [HeldL]) (fun H' hH => OpOk.step (ok_conv_str rfl ti_Luint8 ti_string rfl ti_uint8 rfl rfl (rowA_held hH rfl) rfl (bytesOf_ints _))) ?_
      refine any_take 12 rfl (by first | rfl | decide +kernel) rfl (by first | exact HeldL.refl _ | exact HeldL.append _ _ | simp [HeldL]) (fun H' hH => OpOk.step (OpOk.bool (d := false) (ok_binOp rfl ti_string rfl) (by simp))) ?_
      refine any_take 13 rfl (by first | rfl | decide +kernel) rfl (by first | exact HeldL.refl _ | exact HeldL.append _ _ | simp [HeldL]) (fun H' hH => OpOk.step (ok_pickb (t := false) (d := false) rfl rfl rfl)) ?_
      refine any_done rfl ?_
      refine keepK hK8 [1, 2, 3, 7, 37] (by dsimp) (by dsimp) ?_
      refine T.cond_false rfl ?_
      refine T.skip ?_
      refine keepK hK7 [1, 2, 3, 7] (by dsimp) (by dsimp) ?_
      refine T.seq fun K9 hK9 => ?_
      refine T.seq fun K10 hK10 => ?_
      refine T.region ?_ -- region 6
      refine ro rfl rfl (OpOk.step (ok_move (.inl rfl))) ?_
      refine ro rfl rfl (OpOk.step (ok_len' rfl rfl ti_Luint8 rfl (by first | exact ints_length _ _ | exact rowsA_length _ _ | rfl))) ?_
      refine ro rfl rfl (OpOk.step (ok_binOp rfl ti_int rfl)) ?_
      refine ro_nil ?_
      refine keepK hK10 [1, 2, 3, 7, 40] (by dsimp) (by dsimp) ?_
      refine T.cond rfl (fun hc => ?_) (fun hc => ?_) -- cond 2
      · (try simp only [decide_eq_true_eq, decide_eq_false_iff_not, beq_iff_eq, beq_eq_false_iff_ne, bne_iff_ne, bne_eq_false_iff_eq, ne_eq, Bool.not_eq_true', Bool.not_eq_false'] at hc)
        have hb00 : b.length = 0 := by omega
        refine T.seq fun K11 hK11 => ?_
        refine T.region ?_ -- region 7
        refine ro rfl rfl (OpOk.step (ok_load rfl ti_api_Rec rfl rfl)) ?_
        refine ro rfl rfl (OpOk.step (ok_move (.inl rfl))) ?_
        refine ro rfl rfl (ok_call rfl rfl rfl (((blocks_ok x k hB hl).plain (by show renL (pos []) [.agg (RcC x), .int k] = _; simp [renL, AV.ren, RcC_ren]) rfl).eq (x' := .int 0) (by rw [hb0, hb00]; simp) rfl)) ?_
        refine ro rfl rfl (OpOk.step (OpOk.bool (d := true) (ok_binOp rfl ti_int rfl) (rfl))) ?_
        refine ro rfl rfl (OpOk.step (ok_moveb (c := true) (.inl rfl) rfl)) ?_
        refine ro rfl rfl (ok_call rfl rfl rfl (live10_ok.plain rfl rfl)) ?_
        refine ro rfl rfl (OpOk.step (ok_pick rfl rfl)) ?_
        refine ro rfl rfl (OpOk.step (ok_move (.inr rfl))) ?_
        refine ro_nil ?_
        refine keepK hK11 [6] (by dsimp) (by dsimp) ?_
        refine T.ret (hQ _ _ _ rfl ?_).1 -- ret 3
        exact TEnt.fin [] (by decide) (by simp) rfl ⟨rfl, trivial⟩
      · (try simp only [decide_eq_true_eq, decide_eq_false_iff_not, beq_iff_eq, beq_eq_false_iff_ne, bne_iff_ne, bne_eq_false_iff_eq, ne_eq, Bool.not_eq_true', Bool.not_eq_false'] at hc)
        have hg : PR x ∧ 1 ≤ k ∧ k ≤ 4096 := by
          rcases Decidable.em (PR x ∧ 1 ≤ k ∧ k ≤ 4096) with h | h
          · exact h
          · rw [putR_bad h] at hb0
            rw [← hb0] at hc
            exact absurd rfl hc
        obtain ⟨hget, hmul⟩ := getR_put (more := m) hg.1 hg.2
        rw [hb0] at hget hmul
        obtain ⟨nn, hnn⟩ : ∃ nn, (b.length : Int) / k = nn := ⟨_, rfl⟩
        rw [hnn] at hget hmul
        refine T.skip ?_
        refine keepK hK9 [1, 2, 3, 7] (by dsimp) (by dsimp) ?_
        refine T.seq fun K12 hK12 => ?_
        refine T.region ?_ -- region 8
        refine ro rfl rfl (OpOk.step (ok_buildSlice (n := 0) (ps := #[]) rfl ti_Luint8 rfl ti_uint8 (by decide) rfl rfl (by decide) rfl rfl rfl)) ?_
        refine ro rfl rfl (OpOk.step (ok_move (.inl rfl))) ?_
        refine ro rfl rfl (OpOk.step (by exact ok_append_ints (k := .u8) (xs := []) (ys := b) rfl ti_Luint8 rfl ti_uint8 rfl (by decide) rfl ti_Luint8 (by simp) rfl rfl rfl rfl rfl rfl rfl rfl rfl (by simp; omega))) ?_
        refine ro rfl rfl (OpOk.step (ok_move (.inl rfl))) ?_
        refine ro rfl rfl (OpOk.step (((ok_append_ints (k := .u8) (xs := b) (ys := m) rfl ti_Luint8 rfl ti_uint8 rfl (by decide) rfl ti_Luint8 (by simp) rfl rfl rfl rfl rfl rfl rfl rfl rfl (by simp; omega)).frz rfl (by simp)).eq (x' := .fz 1 (ints .u8 (b ++ m))) (H'' := [some (RcB x), none, none, some ⟨1, false, ints .u8 (b ++ m)⟩]) rfl rfl)) ?_
        refine ro rfl rfl (OpOk.step (ok_move (.inl rfl))) ?_
        refine ro rfl rfl (ok_call rfl rfl rfl (((get_ok (b ++ m) k (hbB.append hM) (by simp; omega)).plain (by simp [renL, AV.ren, renL_ints]) (by simp [AV.ren, renL, RcC_ren])).eq (x' := .tup [.agg (RcC x), .int nn, .int 0]) (by rw [hget]) rfl)) ?_
        refine ro rfl rfl (OpOk.step (ok_move (.inl rfl))) ?_
        refine ro rfl rfl (OpOk.step (ok_extract rfl rfl rfl)) ?_
        refine ro rfl rfl (OpOk.step (ok_extract rfl rfl rfl)) ?_
        refine ro rfl rfl (OpOk.step (ok_extract rfl rfl rfl)) ?_
        refine ro rfl rfl (OpOk.step (ok_alloc rfl ti_api_Rec rfl (by decide))) ?_
        refine ro rfl rfl (OpOk.step (ok_store rfl ti_api_Rec (by decide) rfl rfl rfl rfl rfl (by first | exact Nat.le_of_ble_eq_true rfl | simp) (by first | exact .inl ⟨rfl, rfl⟩ | exact .inr rfl))) ?_
        refine ro rfl rfl (OpOk.step (ok_move (.inr rfl))) ?_
        refine ro rfl rfl (OpOk.step (ok_move (.inr rfl))) ?_
        refine ro_nil ?_
        refine keepK hK12 [1, 3, 7, 8, 9, 10] (by dsimp) (by dsimp) ?_
        refine T.seq fun K13 hK13 => ?_
        refine T.region ?_ -- region 9
        refine ro rfl rfl (OpOk.step (ok_move (.inl rfl))) ?_
        refine ro rfl rfl (ok_call rfl rfl rfl ((code10_ok 0).plain rfl rfl)) ?_
        refine ro rfl rfl (OpOk.step (OpOk.bool (d := true) (ok_binOp rfl ti_int rfl) (rfl))) ?_
        refine ro rfl rfl (OpOk.step (ok_moveb (c := true) (.inl rfl) rfl)) ?_
        refine ro rfl rfl (OpOk.step (ok_move (.inl rfl))) ?_
        refine ro rfl rfl (OpOk.step (ok_move (.inl rfl))) ?_
        refine ro rfl rfl (OpOk.step (ok_mul64 rfl ti_int rfl rfl (by omega) (by omega))) ?_
        refine ro rfl rfl (OpOk.step (ok_move (.inl rfl))) ?_
        refine ro rfl rfl (OpOk.step (ok_len' rfl rfl ti_Luint8 rfl (by first | exact ints_length _ _ | exact rowsA_length _ _ | rfl))) ?_
        refine ro rfl rfl (OpOk.step (OpOk.bool (d := true) (ok_binOp rfl ti_int rfl) (by simp; omega))) ?_
        refine ro rfl rfl (OpOk.step (ok_pickb (t := true) (d := true) rfl rfl rfl)) ?_
        refine ro rfl rfl (OpOk.step (ok_moveb (c := true) (.inl rfl) rfl)) ?_
        refine ro rfl rfl (OpOk.step (ok_move (.inl rfl))) ?_
        refine ro rfl rfl (OpOk.step (ok_load rfl ti_api_Rec rfl rfl)) ?_
        refine ro rfl rfl (OpOk.step (ok_move (.inl rfl))) ?_
        refine ro rfl rfl (ok_call rfl rfl rfl (((blocks_ok x k hB hl).plain (by show renL (pos []) [.agg (RcC x), .int k] = _; simp [renL, AV.ren, RcC_ren]) rfl).eq (x' := .int nn) (by rw [hb0, hnn, if_pos hg.2]) rfl)) ?_
        refine ro rfl rfl (OpOk.step (OpOk.bool (d := true) (ok_binOp rfl ti_int rfl) (by simp))) ?_
        refine ro rfl rfl (OpOk.step (ok_pickb (t := true) (d := true) rfl rfl rfl)) ?_
        refine ro rfl rfl (OpOk.step (ok_moveb (c := true) (.inl rfl) rfl)) ?_
        refine ro rfl rfl (OpOk.step (ok_load rfl ti_api_Rec rfl rfl)) ?_
        refine ro rfl rfl (OpOk.step (ok_load rfl ti_api_Rec rfl rfl)) ?_
        refine ro rfl rfl (ok_call rfl rfl rfl (((rsame_ok x x).plain (by show renL (pos []) [.agg (RcC x), .agg (RcC x)] = _; simp [renL, AV.ren, RcC_ren]) rfl).eq (x' := .b true) (by rw [sameR_refl]) rfl)) ?_
        refine ro rfl rfl (OpOk.step (OpOk.bool (d := true) (ok_pickb rfl rfl rfl) (rfl))) ?_
        refine ro rfl rfl (OpOk.step (ok_moveb (c := true) (.inl rfl) rfl)) ?_
        refine ro rfl rfl (ok_call rfl rfl rfl (live10_ok.plain rfl rfl)) ?_
        refine ro rfl rfl (OpOk.step (ok_pick rfl rfl)) ?_
        refine ro rfl rfl (OpOk.step (ok_move (.inr rfl))) ?_
        refine ro_nil ?_
        refine keepK hK13 [6] (by dsimp) (by dsimp) ?_
        refine T.ret (hQ _ _ _ rfl ?_).1 -- ret 4
        exact TEnt.fin [] (by decide) (by simp) rfl ⟨rfl, trivial⟩
end Go.Proofs.Ytmegpanmiagheaa.AmF
