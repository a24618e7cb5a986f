/- What any two maps have both, place by place, as lists of truths have it. No condition. -/
import Derived.Test.YtpfonhppmnibkaaAskBitmapAnds
import Derived.Test.YtpfonhppmnibkaaBmLib
namespace Go.Proofs.Ytpfonhppmnibkaa.Pure
open Go.RowKit Go.Proofs.Ytpfonhppmnibkaa.M Go.Proofs.Ytpfonhppmnibkaa.BmLib Go.Proofs.Ytpfonhppmnibkaa.AskBitmapAnds Go.Proofs.YtpfonhppmnibkaaW.PrintWords Go.Proofs.YtpfonhppmnibkaaW.PrintLast Go.Proofs.YtpfonhppmnibkaaW.PrintMore Go.Proofs.YtpfonhppmnibkaaW.MyPure
def andL (a b : List Bool) : List Bool := (List.range (max a.length b.length)).map fun i => a.getD i false && b.getD i false
theorem andL_len (a b : List Bool) : (andL a b).length = max a.length b.length := by simp [andL]
theorem andL_getD (a b : List Bool) (i : Nat) : (andL a b).getD i false = (a.getD i false && b.getD i false) := by
  unfold andL
  by_cases h : i < max a.length b.length
  · rw [List.getD_eq_getElem?_getD, List.getElem?_map, List.getElem?_range h]; rfl
  · have h1 : a.getD i false = false := by rw [List.getD_eq_getElem?_getD, List.getElem?_eq_none (by omega)]; rfl
    rw [h1, List.getD_eq_getElem?_getD, List.getElem?_eq_none (by simp; omega)]; rfl
theorem ref_and_l0 (a b : List Bool) (ha : a.length ≤ 65536) (hb : b.length ≤ 65536) : ∀ (d k : Nat) (j : Int), 0 ≤ j → j + d = max a.length b.length → d < k → revetmentref19_And.l0 k a b ((andL a b).take j.toNat) j = some (andL a b) := by
  intro d
  induction d with
  | zero =>
    intro k j h0 h1 hk
    obtain ⟨k, rfl⟩ := rounds_succ' hk
    simp only [revetmentref19_And.l0]
    rw [if_neg (by omega), if_neg (by omega), List.take_of_length_le (by rw [andL_len]; omega)]
  | succ d ih =>
    intro k j h0 h1 hk
    obtain ⟨k, rfl⟩ := rounds_succ' hk
    simp only [revetmentref19_And.l0]
    have hs : ((andL a b).take j.toNat).length < 140737488355328 := by rw [List.length_take, andL_len]; omega
    have e := take_getD (andL a b) j h0 (by rw [andL_len]; omega)
    rw [andL_getD] at e
    have ih' := ih k (j + 1) (by omega) (by omega) (by omega)
    rw [e] at ih'
    have r1 : rdOf false a j = a.getD j.toNat false := rfl
    have r2 : rdOf false b j = b.getD j.toNat false := rfl
    rw [wrap_succ j h0 (by omega), r1, r2]
    by_cases c1 : j < (a.length : Int)
    · rw [if_pos c1]
      by_cases c2 : j < (b.length : Int)
      · rw [if_pos c2, if_pos h0]
        by_cases c3 : a.getD j.toNat false = true
        · rw [if_pos c3, if_pos hs]; rw [c3, Bool.true_and] at ih'; exact ih'
        · have c3' : a.getD j.toNat false = false := by simpa using c3
          rw [if_neg c3, if_pos hs]; rw [c3', Bool.false_and] at ih'; exact ih'
      · have z : b.getD j.toNat false = false := by rw [List.getD_eq_getElem?_getD, List.getElem?_eq_none (by omega)]; rfl
        rw [if_neg c2, if_pos hs]; rw [z, Bool.and_false] at ih'; exact ih'
    · have z : a.getD j.toNat false = false := by rw [List.getD_eq_getElem?_getD, List.getElem?_eq_none (by omega)]; rfl
      rw [if_neg c1, if_pos (by omega), if_pos hs]; rw [z, Bool.false_and] at ih'; exact ih'
theorem ref_and (a b : List Bool) (ha : a.length ≤ 65536) (hb : b.length ≤ 65536) (k : Nat) (hk : 65536 < k) : revetmentref19_And.f k a b = some (andL a b) := by
  unfold revetmentref19_And.f
  exact ref_and_l0 a b ha hb (max a.length b.length) k 0 (by omega) (by omega) (by omega)
theorem and_l0 {u v : List Int} {m n : Int} {a b : List Bool} (ha : Rep u m a) (hb : Rep v n b) (N : Int) : ∀ (d k : Nat) (j : Int) (ws : List Int), 0 ≤ j → j + d = mn (u.length : Int) (v.length : Int) → d < k →
    ws.length = max u.length v.length → (∀ x ∈ ws, W64 x) → (∀ i, bitAt ws i = if ((i / 64 : Nat) : Int) < j then (bitAt u i && bitAt v i) else false) →
    ∃ ws', bitmap_And.l0 k (mn (u.length : Int) (v.length : Int)) j u m v n ws N = some (ws', N) ∧ ws'.length = ws.length ∧ (∀ x ∈ ws', W64 x) ∧ ∀ i, bitAt ws' i = (bitAt u i && bitAt v i) := by
  have out : ∀ (q : List Int) (i : Nat), q.length ≤ i / 64 → bitAt q i = false := fun q i h => by
    unfold bitAt
    rw [List.getD_eq_getElem?_getD, List.getElem?_eq_none h]
    simp [bit]
  have hm : mn (u.length : Int) (v.length : Int) ≤ u.length ∧ mn (u.length : Int) (v.length : Int) ≤ v.length ∧ (mn (u.length : Int) (v.length : Int) = u.length ∨ mn (u.length : Int) (v.length : Int) = v.length) := by unfold mn; split <;> omega
  have hul := ha.wl
  have hvl := hb.wl
  have hale := ha.le
  have hble := hb.le
  intro d
  induction d with
  | zero =>
    intro k j ws h0 h1 hk hl hw hbit
    obtain ⟨k, rfl⟩ := rounds_succ' hk
    refine ⟨ws, ?_, rfl, hw, fun i => ?_⟩
    · simp only [bitmap_And.l0]
      rw [if_neg (by omega)]
    · rw [hbit]
      split
      · rfl
      · rcases hm.2.2 with z | z
        · rw [out u i (by omega)]; rfl
        · rw [out v i (by omega)]; simp
  | succ d ih =>
    intro k j ws h0 h1 hk hl hw hbit
    obtain ⟨k, rfl⟩ := rounds_succ' hk
    simp only [bitmap_And.l0]
    rw [if_pos (by omega), if_pos h0, if_pos (by omega), if_pos (by omega), if_pos (by omega), wrap_succ j h0 (by omega)]
    have hu := ha.w _ (rd_mem (l := u) j h0 (by omega))
    have hv := hb.w _ (rd_mem (l := v) j h0 (by omega))
    obtain ⟨q1, q2⟩ := and_u64 hu hv
    obtain ⟨ws', e, l', w', b'⟩ := ih k (j + 1) (ws.set j.toNat (Go.bits .and .u64 (rd u j) (rd v j))) (by omega) (by omega) (by omega) (by simpa using hl) (fun x hx => by
      rcases List.mem_or_eq_of_mem_set hx with hx | rfl
      · exact hw x hx
      · exact q1) (fun i => by
      unfold bitAt
      by_cases z : i / 64 = j.toNat
      · rw [z, List.getD_eq_getElem?_getD, List.getElem?_set_self (by omega), if_pos (by omega)]
        show bit _ (i % 64) = _
        rw [Option.getD_some, q2]
        rfl
      · rw [List.getD_eq_getElem?_getD, List.getElem?_set_ne (by omega), ← List.getD_eq_getElem?_getD]
        have := hbit i
        unfold bitAt at this
        rw [this]
        by_cases y : ((i / 64 : Nat) : Int) < j
        · rw [if_pos y, if_pos (by omega)]
        · rw [if_neg y, if_neg (by omega)])
    exact ⟨ws', e, by rw [l']; simp, w', b'⟩
theorem and_tells {u v : List Int} {m n : Int} {a b : List Bool} (ha : Rep u m a) (hb : Rep v n b) (k : Nat) (hk : 65536 < k) : ∃ ws N, bitmap_And.f k u m v n = some (ws, N) ∧ Rep ws N (andL a b) := by
  unfold bitmap_And.f
  obtain ⟨w0, e0, r0⟩ := new_tells (mx m n)
  rw [e0]
  simp only [Option.bind_some]
  have hal := ha.len
  have hbl := hb.len
  have hul := ha.wl
  have hvl := hb.wl
  have hale := ha.le
  have hble := hb.le
  have hs : size0 (mx m n) = max a.length b.length := by unfold size0 mn mx; (repeat' split) <;> omega
  have hw0 := r0.wl
  simp only [List.length_replicate] at hw0
  have hmn : 0 ≤ mn (u.length : Int) (v.length : Int) ∧ mn (u.length : Int) (v.length : Int) ≤ u.length := by unfold mn; split <;> omega
  obtain ⟨ws, e, l', w', b'⟩ := and_l0 ha hb (size0 (mx m n)) (mn (u.length : Int) (v.length : Int)).toNat k 0 w0 (by omega) (by omega) (by omega) (by omega) r0.w (fun i => by
    rw [if_neg (by omega), r0.b, List.getD_eq_getElem?_getD, List.getElem?_replicate]
    split <;> rfl)
  refine ⟨ws, _, e, ?_, ?_, ?_, w', fun i => ?_⟩
  · rw [andL_len]; omega
  · rw [andL_len]; omega
  · rw [andL_len, l']; omega
  · rw [b', ha.b, hb.b, andL_getD]
theorem BitmapAnds : AskBitmapAnds.Pure := by
  intro n l m o _ hl _ ho
  obtain ⟨_, hl1, hl2⟩ := hl
  obtain ⟨_, ho1, ho2⟩ := ho
  obtain ⟨K, hK1, hK2⟩ := rounds_for l
  obtain ⟨J, hJ1, hJ2⟩ := rounds_for o
  refine ⟨l.length + K + o.length + J + 300000, ?_⟩
  generalize hk : l.length + K + o.length + J + 300000 = k
  have big : ∀ k, 60 ≤ k → revetmentlaw19_BitmapAnds.j0 (k + 1) n l m o true = some true := fun k h => by
    simp only [revetmentlaw19_BitmapAnds.j0]
    rw [if_pos trivial, live _ h]; rfl
  obtain ⟨k', rfl⟩ : ∃ k', k = k' + 1 := ⟨k - 1, by omega⟩
  unfold revetmentlaw19_BitmapAnds.f
  by_cases c1 : n > 200
  · rw [if_pos c1]; exact big _ (by omega)
  rw [if_neg c1]
  by_cases c2 : m > 200
  · rw [if_pos c2]; exact big _ (by omega)
  rw [if_neg c2]
  by_cases c3 : (l.length : Int) > 10
  · rw [if_pos c3]; exact big _ (by omega)
  rw [if_neg c3]
  by_cases c4 : (o.length : Int) > 10
  · rw [decide_eq_true c4]; exact big _ (by omega)
  rw [decide_eq_false c4]
  simp only [revetmentlaw19_BitmapAnds.j0]
  rw [if_neg (by simp), live _ (by omega)]
  obtain ⟨ws, e, r⟩ := play_tells n l (by omega) K hK1 (fun x hx => ⟨by have := (hl2 x hx).2.2.1.2.1; unfold ActOk; omega, hK2 x hx⟩) k' (by omega)
  obtain ⟨ws2, e2, r2⟩ := play_tells m o (by omega) J hJ1 (fun x hx => ⟨by have := (ho2 x hx).2.2.1.2.1; unfold ActOk; omega, hJ2 x hx⟩) k' (by omega)
  rw [e, e2]
  simp only [Option.bind_some]
  obtain ⟨ws3, N3, e3, r3⟩ := and_tells r r2 k' (by omega)
  have h1 := r.le
  have h2 := r2.le
  have h3 := r3.le
  rw [e3]
  simp only [Option.bind_some]
  rw [text_tells r3 k' (by omega), ref_and _ _ h1 h2 k' (by omega)]
  simp only [Option.bind_some]
  rw [ref_text _ h3 k' (by omega)]
  simp only [Option.bind_some]
  rw [if_pos (by trivial), text_tells r k' (by omega), ref_text _ h1 k' (by omega)]
  simp
end Go.Proofs.Ytpfonhppmnibkaa.Pure
