/- Walks over the abstract machine: records put and got again. -/
import Derived.Test.YteonkbgfpocplaaAfRecget
namespace Go.Proofs.Yteonkbgfpocplaa.AmF
open Go Go.AM
set_option maxRecDepth 100000
set_option linter.unusedSimpArgs false
set_option linter.unusedVariables false
attribute [local simp] tkeep tget tput ev cav argsTM pickA normT putA splice AV.cells ints_length rowsA_length enc_len
theorem rdF_encs {L rest : List Int} {lo hi : Nat → Int} (hI : ∀ x ∈ L, I64 x) (hb : ∀ i v, L[i]? = some v → lo i ≤ v ∧ v ≤ hi i) : ∀ n, n ≤ L.length →
    rdF (encs L ++ rest) lo hi n = (8 * n, 0) ∧ ∀ j, j < n → rdFV (encs L ++ rest) lo hi j = L.getD j 0
  | 0, _ => ⟨rfl, fun j hj => absurd hj (Nat.not_lt_zero _)⟩
  | n + 1, h => by
    obtain ⟨h1, h2⟩ := rdF_encs (rest := rest) hI hb n (by omega)
    obtain ⟨x, hx⟩ : ∃ x, L[n]? = some x := ⟨_, List.getElem?_eq_getElem (by omega)⟩
    have hr := ri_encs (rest := rest) (lo := lo n) (hi := hi n) hx (hI x (List.mem_of_getElem? hx))
    have hbx := hb n x hx
    have hno : ¬ (x < lo n ∨ hi n < x) := by omega
    rw [if_neg hno, if_neg hno] at hr
    have hgd : L.getD n 0 = x := by rw [List.getD_eq_getElem?_getD, hx]; rfl
    refine ⟨?_, fun j hj => ?_⟩
    · show ((ri _ (rdF (encs L ++ rest) lo hi n).1 (rdF (encs L ++ rest) lo hi n).2 (lo n) (hi n)).1, (ri _ (rdF (encs L ++ rest) lo hi n).1 (rdF (encs L ++ rest) lo hi n).2 (lo n) (hi n)).2.1) = _
      rw [h1, hr]
      rfl
    · rcases Nat.lt_or_ge j n with hjn | hjn
      · exact h2 j hjn
      · obtain rfl : j = n := by omega
        show (ri _ (rdF (encs L ++ rest) lo hi j).1 (rdF (encs L ++ rest) lo hi j).2 (lo j) (hi j)).2.2 = _
        rw [h1, hr, hgd]
theorem pad_len {n k : Nat} (hk : 1 ≤ k) : n + (k - n % k) % k = (n + k - 1) / k * k := by
  have h1 := Nat.div_add_mod n k
  have h2 := Nat.mod_lt n (show k > 0 by omega)
  generalize n / k = q at h1
  generalize hr : n % k = r at h1 h2
  rcases Nat.eq_zero_or_pos r with h0 | h0
  · rw [h0, Nat.sub_zero, Nat.mod_self]
    have : n + k - 1 = (k - 1) + k * q := by omega
    rw [this, Nat.add_mul_div_left _ _ (by omega), Nat.div_eq_of_lt (by omega), Nat.zero_add, Nat.mul_comm]
    omega
  · rw [Nat.mod_eq_of_lt (a := k - r) (by omega)]
    have : n + k - 1 = (r - 1) + k * (q + 1) := by rw [Nat.mul_add]; omega
    rw [this, Nat.add_mul_div_left _ _ (by omega), Nat.div_eq_of_lt (by omega), Nat.zero_add, Nat.mul_comm, Nat.mul_add]
    omega
theorem zeroB_rep (n : Nat) : zeroB (List.replicate n 0) = true := by simp [zeroB]
theorem PR_I64 {x : Rc} (h : PR x) : ∀ v ∈ x.l, I64 v := by
  intro v hv
  obtain ⟨i, hi⟩ := List.getElem?_of_mem hv
  have h1 := PR_nine hi h
  have h5 : -1 ≤ v := by
    rcases h1.2 with h2 | h2
    · omega
    · subst h2
      simp [Rc.l] at hi
      subst hi
      unfold PR at h
      omega
  exact ⟨by omega, by omega⟩
theorem parse_pay {x : Rc} (h : PR x) : parOk (payR x) ∧ xr (payR x) = x := by
  have hb : ∀ i v, x.l[i]? = some v → rLo i ≤ v ∧ v ≤ rHi i := by
    intro i v hv
    have hi : i < 9 := (List.getElem?_eq_some_iff.1 hv).1
    unfold PR at h
    match i, hi with
    | 0, _ | 1, _ | 2, _ | 3, _ | 4, _ | 5, _ | 6, _ | 7, _ | 8, _ => simp [Rc.l] at hv; subst hv; simp [rLo, rHi]; omega
  have hbl : x.body.length ≤ 1048576 := by unfold PR at h; omega
  obtain ⟨k, hk⟩ : ∃ k, x.l.length = k := ⟨_, rfl⟩
  have hk9 : 9 = k := hk
  have hd := rdF_encs (rest := enc x.body.length 8 ++ x.body) (lo := rLo) (hi := rHi) (PR_I64 h) hb k (Nat.le_of_eq hk.symm)
  have hlen : (encs x.l).length = 8 * k := by rw [encs_len, hk]
  have he : payR x = encs x.l ++ (enc x.body.length 8 ++ x.body) := by simp [payR]
  have hl := payR_len x
  rw [← he] at hd
  have hrb := rb_enc (l := payR x) (a := encs x.l) (b := []) (x := x.body) (m := 1048576) (p := 8 * k) hlen.symm (by rw [he]; simp) (by omega) (by omega)
  have hgd : ∀ j, j < k → rdFV (payR x) rLo rHi j = x.l.getD j 0 := hd.2
  have hd1 := hd.1
  subst hk9
  have hB : rBody (payR x) = (72 + 8 + x.body.length, 0, x.body) := by
    unfold rBody
    rw [hd1]
    exact hrb
  refine ⟨⟨by rw [hB], by rw [hB, hl]⟩, ?_⟩
  have e : ∀ (f : Nat → Int) (b : List Int), (∀ j, j < 9 → f j = x.l.getD j 0) → b = x.body → (⟨f 0, f 1, f 2, f 3, f 4, f 5, f 6, f 7, f 8, b⟩ : Rc) = x := by
    intro f b hf hb
    cases x
    simp only [Rc.mk.injEq]
    exact ⟨hf 0 (by decide), hf 1 (by decide), hf 2 (by decide), hf 3 (by decide), hf 4 (by decide), hf 5 (by decide), hf 6 (by decide), hf 7 (by decide), hf 8 (by decide), hb⟩
  exact e (rdFV (payR x) rLo rHi) _ hgd (by rw [hB])
theorem getR_put {x : Rc} {k : Int} {more : List Int} (h : PR x) (hk : 1 ≤ k ∧ k ≤ 4096) : getR (putR x k ++ more) k = (x, ((putR x k).length : Int) / k, 0) ∧ ((putR x k).length : Int) / k * k = (putR x k).length := by
  rw [putR_good ⟨h, hk⟩]
  obtain ⟨hpo, hxr⟩ := parse_pay h
  have hpl := payR_len x
  have hbl : x.body.length ≤ 1048576 := by unfold PR at h; omega
  obtain ⟨n, rfl⟩ := Int.eq_ofNat_of_zero_le (show 0 ≤ k by omega)
  generalize payR x = p at hpo hxr hpl
  have hcb := crcV_bd p
  have hhl := headR_len p
  obtain ⟨z, hz⟩ : ∃ z, (n - (headR p ++ p).length % n) % n = z := ⟨_, rfl⟩
  have hpad : padL (headR p ++ p) (n : Int).toNat = (headR p ++ p) ++ List.replicate z 0 := by unfold padL; rw [Int.toNat_natCast, hz]
  have hlen : (16 + p.length) + z = (16 + p.length + n - 1) / n * n := by
    rw [← hz, List.length_append, hhl]
    exact pad_len (by omega)
  rw [hpad]
  obtain ⟨l, hl⟩ : ∃ l, (headR p ++ p) ++ List.replicate z 0 ++ more = l := ⟨_, rfl⟩
  have hbl2 : ((headR p ++ p) ++ List.replicate z 0).length = 16 + p.length + z := by simp [hhl]; omega
  have ht16 : l.take 16 = headR p := by
    rw [← hl, List.append_assoc, List.append_assoc]
    exact List.take_left' hhl
  have q0 : gQ0 l = (8, 0, (p.length : Int)) := by
    have := ri_enc (l := headR p) (a := []) (b := enc (crcV p) 8) (v := p.length) (lo := 0) (hi := 1048656) (p := 0) rfl rfl ⟨by omega, by omega⟩
    unfold gQ0
    rw [ht16, this]
    have hc : ¬ ((p.length : Int) < 0 ∨ 1048656 < (p.length : Int)) := by omega
    rw [if_neg hc, if_neg hc]
  have q1 : gQ1 l = (16, 0, crcV p) := by
    have := ri_enc (l := headR p) (a := enc p.length 8) (b := []) (v := crcV p) (lo := -9223372036854775808) (hi := 9223372036854775807) (p := 8) (by simp) (by simp [headR]) ⟨by omega, by omega⟩
    unfold gQ1
    rw [ht16, q0, this]
    have hc : ¬ (crcV p < -9223372036854775808 ∨ 9223372036854775807 < crcV p) := by omega
    rw [if_neg hc, if_neg hc]
  have hgN : gN l = p.length := by unfold gN; rw [q0]
  have hgM : gM l n = ((16 + p.length + n - 1) / n : Nat) := by
    unfold gM
    rw [hgN]
    have : (16 : Int) + p.length + n - 1 = ((16 + p.length + n - 1 : Nat) : Int) := by omega
    rw [this]
    simp
  have hmk : gM l n * n = (16 + p.length + z : Nat) := by
    rw [hgM, ← Int.natCast_mul, ← hlen]
  have hgP : gP l = p := by
    unfold gP
    rw [hgN]
    have e1 : ((16 : Int) + p.length).toNat = 16 + p.length := by omega
    have e2 : l.take (16 + p.length) = headR p ++ p := by
      rw [← hl, List.append_assoc]
      exact List.take_left' (by simp [hhl])
    rw [e1, e2]
    exact List.drop_left' hhl
  have hgT : gT l n = List.replicate z 0 := by
    unfold gT
    rw [hgN, hmk]
    have e1 : ((16 : Int) + p.length).toNat = 16 + p.length := by omega
    have e2 : l.take (16 + p.length + z) = (headR p ++ p) ++ List.replicate z 0 := by
      rw [← hl]
      exact List.take_left' (by simp [hhl]; omega)
    rw [e1, Int.toNat_natCast, e2]
    exact List.drop_left' (by simp [hhl])
  have hll : 16 + p.length + z ≤ l.length := by
    rw [← hl, List.length_append, hbl2]
    omega
  have hq : (((headR p ++ p) ++ List.replicate z 0).length : Int) / n = gM l n := by
    rw [hbl2, ← hmk]
    exact Int.mul_ediv_cancel _ (by omega)
  rw [hq, hbl2, hmk, hl]
  refine ⟨?_, rfl⟩
  rw [getR_7 hk (by omega) (by rw [q1]; simp) (by rw [hmk]; omega) (by rw [q1, hgP]; simp) ⟨by rw [hgP]; exact hpo, by rw [hgT]; exact zeroB_rep z⟩, hgP, hxr]
theorem code10_ok (e : Int) : CSpec Try.prog 10 [] [.int e] [] (.int e) := by
  refine CSpec.body Try.func10 rfl rfl rfl rfl rfl fun Q hQ => ?_
  refine T.seq fun K1 hK1 => ?_
  refine T.region ?_ -- region 0
  refine ro rfl rfl (OpOk.step (ok_move (.inr rfl))) ?_
  refine ro_nil ?_
  refine keepK hK1 [0] (by dsimp) (by dsimp) ?_
  refine T.seq fun K2 hK2 => ?_
  refine T.region ?_ -- region 1
  refine ro rfl rfl (OpOk.step (ok_move (.inl rfl))) ?_
  refine ro rfl rfl (OpOk.step (ok_move (.inr rfl))) ?_
  refine ro_nil ?_
  refine keepK hK2 [2] (by dsimp) (by dsimp) ?_
  refine T.ret (hQ _ _ _ rfl ?_).1 -- ret 1
  exact TEnt.toH rfl ⟨rfl, trivial⟩
end Go.Proofs.Yteonkbgfpocplaa.AmF
