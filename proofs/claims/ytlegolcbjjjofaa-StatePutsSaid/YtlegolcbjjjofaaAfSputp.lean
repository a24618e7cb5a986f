/- States put as bytes: they are got again. -/
import Derived.Test.YtlegolcbjjjofaaAfSget2
import Derived.Test.YtlegolcbjjjofaaAfSput1
import Derived.Test.YtlegolcbjjjofaaAfState20
namespace Go.Proofs.Ytlegolcbjjjofaa.AmF
open Go Go.AM
set_option maxRecDepth 100000
set_option linter.unusedSimpArgs false
set_option linter.unusedVariables false
theorem drop_le {l x r : List Int} {p : Nat} (h : l.drop p = x ++ r) (hx : 0 < x.length) : p ≤ l.length := by
  rcases Nat.lt_or_ge l.length p with h1 | h1
  · rw [List.drop_eq_nil_of_le (by omega)] at h
    have := congrArg List.length h
    simp at this
    omega
  · exact h1
theorem drop_more {l x r : List Int} {p n : Nat} (h : l.drop p = x ++ r) (hn : n = x.length) : l.drop (p + n) = r := by
  rw [← List.drop_drop, h, hn, List.drop_left]
theorem ri_drop {l r : List Int} {p : Nat} {v lo hi : Int} (h : l.drop p = enc v 8 ++ r) (hv : lo ≤ v ∧ v ≤ hi) (hI : I64 v) : ri l p 0 lo hi = (p + 8, 0, v) ∧ l.drop (p + 8) = r := by
  have hp := drop_le h (by rw [enc_len]; omega)
  refine ⟨?_, drop_more h (enc_len v 8).symm⟩
  have h1 := ri_enc (l := l) (a := l.take p) (b := r) (lo := lo) (hi := hi) (p := p) (by simp; omega) (by rw [← h, List.take_append_drop]) hI
  rw [h1, if_neg (by omega), if_neg (by omega)]
theorem rf_drop {l r : List Int} {p : Nat} {f : Bool} (h : l.drop p = flagB f ++ r) : rf l p 0 = (p + 1, 0, f) ∧ l.drop (p + 1) = r := by
  have hp := drop_le h (by simp [flagB])
  refine ⟨?_, drop_more h (by simp [flagB])⟩
  have h1 := rf_enc (l := l) (a := l.take p) (b := r) (c := if f = true then 1 else 0) (p := p) (by simp; omega) (by
    have e : (if f = true then (1 : Int) else 0) :: r = flagB f ++ r := rfl
    rw [e, ← h, List.take_append_drop])
  rw [h1]
  cases f <;> rfl
theorem rb_drop {l r x : List Int} {p : Nat} {m : Int} (h : l.drop p = enc x.length 8 ++ (x ++ r)) (hx : (x.length : Int) ≤ m) (hx' : x.length ≤ 140737488355328) : rb l p 0 m = (p + 8 + x.length, 0, x) ∧ l.drop (p + 8 + x.length) = r := by
  have hp := drop_le h (by rw [enc_len]; omega)
  refine ⟨rb_enc (l := l) (a := l.take p) (b := r) (p := p) (by simp; omega) (by rw [← h, List.take_append_drop]) hx hx', ?_⟩
  exact drop_more (drop_more h (enc_len _ 8).symm) rfl
theorem I64_of {v : Int} (h : -4611686018427387904 ≤ v ∧ v ≤ 4611686018427387904) : I64 v := ⟨by omega, by omega⟩
theorem pgK_drop {l r : List Int} {p : Nat} {ps : List Pr} (h : l.drop p = encPs ps ++ r) (hps : ∀ q ∈ ps, (0 ≤ q.w ∧ q.w ≤ 1099511627776) ∧ q.b.length ≤ 1048576) : ∀ i, i ≤ ps.length → ∃ p', pgK l p 0 i = (ps.take i, p', 0) ∧ l.drop p' = encPs (ps.drop i) ++ r
  | 0, _ => ⟨p, rfl, h⟩
  | i + 1, hi => by
    obtain ⟨p', h1, h2⟩ := pgK_drop h hps i (by omega)
    obtain ⟨q, hq⟩ : ∃ q, ps[i]? = some q := ⟨_, List.getElem?_eq_getElem (by omega)⟩
    have hqq : ps[i] = q := (List.getElem?_eq_some_iff.1 hq).2
    have hm := hps q (List.mem_of_getElem? hq)
    have e : ps.drop i = q :: ps.drop (i + 1) := by rw [List.drop_eq_getElem_cons (by omega), hqq]
    rw [e, encPs, encP, List.append_assoc, List.append_assoc] at h2
    obtain ⟨a1, a2⟩ := ri_drop (lo := 0) (hi := 1099511627776) h2 hm.1 (I64_of (by omega))
    rw [List.append_assoc] at a2
    obtain ⟨b1, b2⟩ := rb_drop (m := 1048576) a2 (by omega) (by omega)
    refine ⟨p' + 8 + 8 + q.b.length, ?_, b2⟩
    rw [pgK_succ h1 a1 b1, take_succ_get hq]
/-- A zone that may be read. -/
def ZG (z : Zn) : Prop := (0 ≤ z.gen ∧ z.gen ≤ 1099511627776) ∧ (-1 ≤ z.slot ∧ z.slot ≤ 64) ∧ (0 ≤ z.w ∧ z.w ≤ 1099511627776) ∧ z.pars.length ≤ 2 ∧ ∀ q ∈ z.pars, (0 ≤ q.w ∧ q.w ≤ 1099511627776) ∧ q.b.length ≤ 1048576
theorem zget_drop {l r : List Int} {p : Nat} {z : Zn} (h : l.drop p = encZ z ++ r) (hz : ZG z) : ∃ p', zget l p 0 = (z, p', 0) ∧ l.drop p' = r := by
  obtain ⟨z1, z2, z3, z4, z5⟩ := hz
  rw [encZ, headZ] at h
  simp only [List.append_assoc] at h
  obtain ⟨a1, a2⟩ := ri_drop (lo := 0) (hi := 1099511627776) h z1 (I64_of (by omega))
  obtain ⟨b1, b2⟩ := ri_drop (lo := -1) (hi := 64) a2 z2 (I64_of (by omega))
  obtain ⟨c1, c2⟩ := rf_drop b2
  obtain ⟨d1, d2⟩ := ri_drop (lo := 0) (hi := 1099511627776) c2 z3 (I64_of (by omega))
  obtain ⟨e1, e2⟩ := rf_drop d2
  obtain ⟨f1, f2⟩ := ri_drop (lo := 0) (hi := 2) e2 (by omega) (I64_of (by omega))
  obtain ⟨p', g1, g2⟩ := pgK_drop f2 z5 z.pars.length (Nat.le_refl _)
  rw [List.drop_length, List.take_length] at *
  refine ⟨p', ?_, g2⟩
  unfold zget
  simp only [a1, b1, c1, d1, e1, f1, Int.toNat_natCast, g1]
theorem stK_drop {l r : List Int} {p : Nat} {st : List Int} (h : l.drop p = encs st ++ r) (hst : ∀ n ∈ st, 0 ≤ n ∧ n ≤ 2) : ∀ i, i ≤ st.length → ∃ p', stK l p 0 i = (st.take i, p', 0) ∧ l.drop p' = encs (st.drop i) ++ r
  | 0, _ => ⟨p, rfl, h⟩
  | i + 1, hi => by
    obtain ⟨p', h1, h2⟩ := stK_drop h hst i (by omega)
    obtain ⟨q, hq⟩ : ∃ q, st[i]? = some q := ⟨_, List.getElem?_eq_getElem (by omega)⟩
    have hqq : st[i] = q := (List.getElem?_eq_some_iff.1 hq).2
    have hm := hst q (List.mem_of_getElem? hq)
    have e : st.drop i = q :: st.drop (i + 1) := by rw [List.drop_eq_getElem_cons (by omega), hqq]
    rw [e, encs, List.append_assoc] at h2
    obtain ⟨a1, a2⟩ := ri_drop (lo := 0) (hi := 2) h2 hm (I64_of (by omega))
    exact ⟨p' + 8, by rw [stK_succ h1 a1, take_succ_get hq], a2⟩
theorem zsK_drop {l r : List Int} {p : Nat} {zs : List Zn} (h : l.drop p = encZs zs ++ r) (hzs : ∀ z ∈ zs, ZG z) : ∀ i, i ≤ zs.length → ∃ p', zsK l p 0 i = (zs.take i, p', 0) ∧ l.drop p' = encZs (zs.drop i) ++ r
  | 0, _ => ⟨p, rfl, h⟩
  | i + 1, hi => by
    obtain ⟨p', h1, h2⟩ := zsK_drop h hzs i (by omega)
    obtain ⟨q, hq⟩ : ∃ q, zs[i]? = some q := ⟨_, List.getElem?_eq_getElem (by omega)⟩
    have hqq : zs[i] = q := (List.getElem?_eq_some_iff.1 hq).2
    have hm := hzs q (List.mem_of_getElem? hq)
    have e : zs.drop i = q :: zs.drop (i + 1) := by rw [List.drop_eq_getElem_cons (by omega), hqq]
    rw [e, encZs, List.append_assoc] at h2
    obtain ⟨p2, a1, a2⟩ := zget_drop h2 hm
    exact ⟨p2, by rw [zsK_succ h1 a1, take_succ_get hq], a2⟩
theorem size_small {c : Cf} (h : okC c) : 0 ≤ sizeC c ∧ sizeC c ≤ 3932160 := by
  have hs := okC_sane h
  have h1 : 0 ≤ stripesC c ∧ stripesC c ≤ 4096 := by
    unfold stripesC
    rw [if_pos hs]
    have hu := h.2.2.1
    have hc := h.2.2.2.2.1
    exact ⟨Int.ediv_nonneg (by omega) (by omega), Int.le_trans (Int.ediv_le_self _ (by omega)) (by omega)⟩
  have h2 : 0 ≤ rowC c ∧ rowC c ≤ 15 * 64 := by
    unfold rowC
    rw [if_pos hs]
    have hu := h.2.2.1
    have hm := h.2.1
    exact ⟨Int.mul_nonneg (by omega) (by omega), Int.mul_le_mul (by omega) (by omega) (by omega) (by omega)⟩
  unfold sizeC
  refine ⟨Int.mul_nonneg h1.1 h2.1, ?_⟩
  have := Int.mul_le_mul h1.2 h2.2 h2.1 (by omega)
  omega
theorem RZ_ZG {c : Cf} {rb : Bool} {z : Zn} (hc : okC c) (h : RZ c rb z) : ZG z := by
  obtain ⟨h1, h2, h3, h4, h5, h6, h7, h8⟩ := h
  have hs := size_small hc
  have hsl : slotsC c = c.zon + c.spa := by unfold slotsC; rw [if_pos (okC_sane hc)]
  have hsl2 : slotsC c ≤ 64 := by unfold okC at hc; omega
  refine ⟨h1, ⟨h2.1, by omega⟩, ⟨h3.1, by omega⟩, h6, fun q hq => ?_⟩
  obtain ⟨⟨g1, g2⟩, g3⟩ := h8 q hq
  have hu := hc.2.2.1
  have hb := hc.2.2.2.1
  have h10 : c.unit * c.blk ≤ 64 * 4096 := Int.mul_le_mul hu.2 hb.2 (by omega) (by omega)
  exact ⟨⟨by omega, by omega⟩, by omega⟩
theorem bodyS_drop {l : List Int} {s : St} (hrs : RS s) (h : l = (enc s.ep 8 ++ enc s.sq 8) ++ (encs s.st ++ encZs s.zs)) : ∃ p, bodyS l s.c = (s, p, 0) ∧ l.drop p = [] := by
  obtain ⟨r1, r2, r3, r4, r5, r6, r7, r8, r9⟩ := hrs
  have hk := chkC_ok r1
  have h0 : l.drop 0 = enc s.ep 8 ++ (enc s.sq 8 ++ (encs s.st ++ (encZs s.zs ++ []))) := by rw [List.drop_zero, h]; simp
  obtain ⟨a1, a2⟩ := ri_drop (lo := 0) (hi := 1099511627776) h0 (by omega) (I64_of (by omega))
  obtain ⟨b1, b2⟩ := ri_drop (lo := 0) (hi := 1099511627776) a2 (by omega) (I64_of (by omega))
  obtain ⟨p3, c1, c2⟩ := stK_drop b2 r6 s.st.length (Nat.le_refl _)
  rw [List.drop_length, List.take_length] at *
  obtain ⟨p4, d1, d2⟩ := zsK_drop c2 (fun z hz => RZ_ZG hk (r8 z hz)) s.zs.length (Nat.le_refl _)
  rw [List.drop_length, List.take_length] at *
  refine ⟨p4, ?_, d2⟩
  have e5 : s.c.mem.toNat = s.st.length := by omega
  have e6 : s.c.zon.toNat = s.zs.length := by omega
  unfold bodyS
  simp only [a1, b1, e5, c1, e6, d1]
/-- What is put is got. -/
theorem getS_put {s : St} (hrs : RS s) : getS (encSt s) = (s, 0) := by
  have hk := chkC_ok hrs.1
  have hl := headS_len s
  have hlen : ¬ (encSt s).length < 88 := by rw [encSt, List.length_append]; omega
  have h88 : (encs s.c.l).length = 88 := by rw [encs_len]; rfl
  have hsplit : encSt s = encs s.c.l ++ ((enc s.ep 8 ++ enc s.sq 8) ++ (encs s.st ++ encZs s.zs)) := by rw [encSt, headS, List.append_assoc]
  have ht : (encSt s).take 88 = encs s.c.l := by rw [hsplit]; exact List.take_left' h88
  have hd : (encSt s).drop 88 = (enc s.ep 8 ++ enc s.sq 8) ++ (encs s.st ++ encZs s.zs) := by rw [hsplit]; exact List.drop_left' h88
  have hr : ∀ x ∈ s.c.l, -4611686018427387904 ≤ x ∧ x ≤ 4611686018427387904 := by
    intro x hx
    unfold okC at hk
    simp only [Cf.l, List.mem_cons, List.not_mem_nil, or_false] at hx
    rcases hx with rfl | rfl | rfl | rfl | rfl | rfl | rfl | rfl | rfl | rfl | rfl <;> omega
  have hc : getC ((encSt s).take 88) = (s.c, 0) := by
    rw [ht]
    refine (getC_put (fun x hx => I64_of (hr x hx))).1 ?_
    rw [List.all_eq_true]
    intro x hx
    exact decide_eq_true (hr x hx)
  obtain ⟨p, hb, hp⟩ := bodyS_drop hrs hd
  refine getS_5 hlen hc hrs.1 hb ?_
  intro h
  rcases h with h | h
  · have := List.drop_eq_nil_iff.1 hp
    omega
  · exact h hrs
end Go.Proofs.Ytlegolcbjjjofaa.AmF
