/- Where a map is filled from the beginning on, the first place that has not lies at the end, or further. No condition. -/
import Derived.Test.YtpfonhppmnibkaaAskBitmapFills
import Derived.Test.YtpfonhppmnibkaaBmLib
namespace Go.Proofs.Ytpfonhppmnibkaa.Pure
open Go.RowKit Go.Proofs.Ytpfonhppmnibkaa.M Go.Proofs.Ytpfonhppmnibkaa.BmLib Go.Proofs.Ytpfonhppmnibkaa.AskBitmapFills Go.Proofs.YtpfonhppmnibkaaW.PrintWords Go.Proofs.YtpfonhppmnibkaaW.PrintLast Go.Proofs.YtpfonhppmnibkaaW.PrintMore Go.Proofs.YtpfonhppmnibkaaW.MyPure
theorem BitmapFills : AskBitmapFills.Pure := by
  intro n l e_ hn hl hto
  obtain ⟨_, hl1, hl2⟩ := hl
  have hn' := wf_u8 hn
  obtain ⟨K, hK1, hK2⟩ := rounds_for l
  refine ⟨l.length + K + 300000, ?_⟩
  unfold revetmentlaw19_BitmapFills.f
  rw [live _ (by omega)]
  simp only [Option.bind_some]
  by_cases c : (l.length : Int) > 500 ∨ (l.length : Int) > 10
  · rw [if_pos (by omega)]
  · rw [if_neg (by omega)]
    have hw : wrap64 n = n := wrap64_id (by omega) (by omega)
    rw [hw]
    obtain ⟨ws, e, r⟩ := play_tells n l (by omega) K hK1 (fun x hx => ⟨by have := (hl2 x hx).2.2.1.2.1; unfold ActOk; omega, hK2 x hx⟩) (l.length + K + 300000) (by omega)
    rw [e]
    simp only [Option.bind_some]
    obtain ⟨w1, e1, r1⟩ := fill_tells r 0 e_ (l.length + K + 300000) (by omega)
    rw [e1]
    simp only [Option.bind_some]
    have hs : (size0 n : Int) = n := by unfold size0 mn mx; (repeat' split) <;> omega
    have hlen := played_len n l
    obtain ⟨q, e2, q0, q1, q2, q3⟩ := first_tells r1 false (l.length + K + 300000) (by rw [fillL_len]; omega)
    rw [e2]
    simp only [Option.bind_some]
    have hq : q ≥ mn e_ n := by
      by_cases h : q < mn e_ n
      · have m1 : mn e_ n ≤ e_ ∧ mn e_ n ≤ n := by unfold mn; split <;> omega
        have := q3 (by omega)
        rw [fillL_getD _ _ _ _ (by omega)] at this
        have z1 : decide ((0 : Int) ≤ ((q.toNat : Nat) : Int)) = true := decide_eq_true (by omega)
        have z2 : decide (((q.toNat : Nat) : Int) < e_) = true := decide_eq_true (by omega)
        rw [z1, z2] at this
        simp at this
      · omega
    unfold mn at hq
    by_cases c2 : e_ > n
    · rw [if_pos c2, if_pos (by rw [if_pos c2] at hq; exact hq), if_pos (by omega)]
    · rw [if_neg c2, if_pos (by rw [if_neg (by omega)] at hq; exact hq), if_pos (by omega)]
end Go.Proofs.Ytpfonhppmnibkaa.Pure
