/- The rows of places that any map has, what one of two has, and what it has not: as the reference says. No condition. -/
import Derived.Test.YtaanlcegmkmphaaFAskBitmapRuns
import Derived.Test.YtaanlcegmkmphaaFRunsBoth
import Derived.Test.YtaanlcegmkmphaaFPopLib3
namespace Go.Proofs.Ytaanlcegmkmphaa.Pure
open Go.RowKit Go.Proofs.Ytaanlcegmkmphaa.M Go.Proofs.Ytaanlcegmkmphaa.BmLib Go.Proofs.Ytaanlcegmkmphaa.PopLib Go.Proofs.Ytaanlcegmkmphaa.RunsLib Go.Proofs.Ytaanlcegmkmphaa.AskBitmapRuns Go.Proofs.YtaanlcegmkmphaaW.PrintWords Go.Proofs.YtaanlcegmkmphaaW.PrintLast Go.Proofs.YtaanlcegmkmphaaW.PrintMore Go.Proofs.YtaanlcegmkmphaaW.MyPure
theorem cnt_not (f g : Nat → Bool) : ∀ m, (∀ i, i < m → g i = !(f i)) → cnt f m + cnt g m = m
  | 0, _ => rfl
  | m + 1, h => by
    have := cnt_not f g m (fun i hi => h i (by omega))
    simp only [cnt]
    rw [h m (by omega)]
    cases f m <;> simp <;> omega
theorem runs_l0 (K : Nat) (hK : 140000 < K) {ws : List Int} {n : Int} {bs : List Bool} (h : Rep ws n bs) (L : List S67) (hL : L.length ≤ 65537) : ∀ (d k : Nat) (j : Int), 0 ≤ j → j + d = L.length → d + K < k →
    revetmentlaw19_BitmapRuns.l0 k L L j ws n = some true := by
  intro d
  induction d with
  | zero =>
    intro k j h0 h1 hk
    obtain ⟨k, rfl⟩ := rounds_succ' hk
    have hlen := h.len
    have hle := h.le
    obtain ⟨us, e, r⟩ := not_tells h k (by omega)
    have hq : many bs bs.length + many (notL bs) (notL bs).length = bs.length := by
      rw [notL_len]
      exact cnt_not _ _ bs.length (fun i hi => notL_getD bs i hi)
    have e1 := count_tells h k (by omega)
    have e2 := count_tells r k (by omega)
    have e4 := live k (by omega)
    have e3 : wrap64 (((many bs bs.length : Nat) : Int) + ((many (notL bs) (notL bs).length : Nat) : Int)) = n := by rw [wrap64_id (by omega) (by omega)]; omega
    generalize ((many bs bs.length : Nat) : Int) = p at e1 e3
    generalize ((many (notL bs) (notL bs).length : Nat) : Int) = q at e2 e3
    simp only [revetmentlaw19_BitmapRuns.l0]
    rw [if_neg (by omega), e1, Option.bind_some, e, Option.bind_some, e2, Option.bind_some, bitmap_Len.f, Option.bind_some, if_pos e3, e4]
    rfl
  | succ d ih =>
    intro k j h0 h1 hk
    obtain ⟨k, rfl⟩ := rounds_succ' hk
    simp only [revetmentlaw19_BitmapRuns.l0]
    rw [if_pos (by omega), if_pos h0, if_pos (by omega), if_neg (by simp), wrap_succ j h0 (by omega)]
    exact ih k (j + 1) (by omega) (by omega) (by omega)
theorem BitmapRuns : AskBitmapRuns.Pure := by
  intro n l m o _ hl _ ho
  obtain ⟨_, hl1, hl2⟩ := hl
  obtain ⟨_, ho1, ho2⟩ := ho
  obtain ⟨K, hK1, hK2⟩ := rounds_for l
  obtain ⟨J, hJ1, hJ2⟩ := rounds_for o
  refine ⟨l.length + K + o.length + J + 300000, ?_⟩
  generalize hk : l.length + K + o.length + J + 300000 = k
  have big : ∀ k, 60 ≤ k → revetmentlaw19_BitmapRuns.j0 (k + 1) n l m o true = some true := fun k h => by
    simp only [revetmentlaw19_BitmapRuns.j0]
    rw [if_pos trivial, live _ h]; rfl
  obtain ⟨k', rfl⟩ : ∃ k', k = k' + 2 := ⟨k - 2, by omega⟩
  unfold revetmentlaw19_BitmapRuns.f
  by_cases c1 : n > 200
  · rw [if_pos c1]; exact big _ (by omega)
  rw [if_neg c1]
  by_cases c2 : m > 200
  · rw [if_pos c2]; exact big _ (by omega)
  rw [if_neg c2]
  by_cases c3 : (l.length : Int) > 10
  · rw [if_pos c3]; exact big _ (by omega)
  rw [if_neg c3]
  by_cases c4 : (o.length : Int) > 10
  · rw [decide_eq_true c4]; exact big _ (by omega)
  rw [decide_eq_false c4]
  simp only [revetmentlaw19_BitmapRuns.j0]
  rw [if_neg (by simp)]
  obtain ⟨ws, e, r⟩ := play_tells n l (by omega) K hK1 (fun x hx => ⟨by have := (hl2 x hx).2.2.1.2.1; unfold ActOk; omega, hK2 x hx⟩) (k' + 1) (by omega)
  obtain ⟨ws2, e2, r2⟩ := play_tells m o (by omega) J hJ1 (fun x hx => ⟨by have := (ho2 x hx).2.2.1.2.1; unfold ActOk; omega, hJ2 x hx⟩) (k' + 1) (by omega)
  have h1 := r.le
  have h2 := r2.le
  obtain ⟨L, q1, q2, q3⟩ := runs_tells r (k' + 1) (by omega)
  obtain ⟨ws3, N3, e3, r3⟩ := or_tells r r2 (k' + 1) (by omega)
  have h3 := r3.le
  obtain ⟨ws4, e4, r4⟩ := not_tells r (k' + 1) (by omega)
  have h4 := r4.le
  have t3 := text_tells r3 (k' + 1) (by omega)
  have t4 := text_tells r4 (k' + 1) (by omega)
  have o3 := ref_or _ _ h1 h2 (k' + 1) (by omega)
  have o4 := ref_not _ h1 (k' + 1) (by omega)
  have x3 := ref_text _ h3 (k' + 1) (by omega)
  have x4 := ref_text _ h4 (k' + 1) (by omega)
  obtain ⟨Q, hK3, hk3⟩ : ∃ Q, 140000 < Q ∧ L.length + Q < k' := ⟨k' - L.length - 1, by omega, by omega⟩
  have last := runs_l0 Q hK3 r L q3 L.length k' 0 (by omega) (by omega) hk3
  generalize txt (orL (played n l) (played m o)) = T3 at t3 x3
  generalize txt (notL (played n l)) = T4 at t4 x4
  generalize orL (played n l) (played m o) = O3 at o3 x3
  generalize notL (played n l) = O4 at o4 x4
  rw [e, Option.bind_some, e2, Option.bind_some, q1, Option.bind_some, q2, Option.bind_some, if_pos (Eq.refl (L.length : Int)), e3, Option.bind_some, t3, Option.bind_some, o3, Option.bind_some, x3, Option.bind_some, if_pos (Eq.refl T3.toList), e4, Option.bind_some, t4, Option.bind_some, o4, Option.bind_some, x4, Option.bind_some, bne_self_eq_false]
  simp only [revetmentlaw19_BitmapRuns.j1]
  rw [if_neg (by simp)]
  exact last
end Go.Proofs.Ytaanlcegmkmphaa.Pure
