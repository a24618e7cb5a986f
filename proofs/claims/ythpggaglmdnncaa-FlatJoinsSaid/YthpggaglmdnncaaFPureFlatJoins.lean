/- Any ranges, joined, are what the reference joins them to, and have as many blocks. No condition. -/
import Derived.Test.YthpggaglmdnncaaFAskFlatJoins
import Derived.Test.YthpggaglmdnncaaFFlatLib
namespace Go.Proofs.Ythpggaglmdnncaa.Pure
open Go.RowKit Go.Proofs.Ythpggaglmdnncaa.M Go.Proofs.Ythpggaglmdnncaa.FlatLib Go.Proofs.Ythpggaglmdnncaa.AskFlatJoins Go.Proofs.YthpggaglmdnncaaW.PrintWords Go.Proofs.YthpggaglmdnncaaW.PrintLast Go.Proofs.YthpggaglmdnncaaW.PrintMore Go.Proofs.YthpggaglmdnncaaW.MyPure
theorem live33_30 : revetmentlaw33_live.f 30 = some true := by decide +kernel
theorem live33 (k : Nat) (hk : 30 ≤ k) : revetmentlaw33_live.f k = some true := at_rounds (fun k => revetmentlaw33_live.mono k) hk live33_30
theorem joins_end (k : Nat) (hk : 100 < k) (l : List RG) (hl : l.length ≤ 40) (n i : Int) (hn : n = cnts l) (hi : ¬ i < (l.length : Int)) : revetmentlaw33_FlatJoins.l0 (k + 1) l n i = some true := by
  simp only [revetmentlaw33_FlatJoins.l0]
  have hf := foldl_len l []
  simp only [List.length_nil] at hf
  rw [if_neg hi, join_tells l (by omega) k (by omega), ref_join_tells l (by omega) k (by omega)]
  simp only [Option.bind_some]
  rw [same_tells _ (by omega) k (by omega), blocks_tells l (by omega) k (by omega), blocks_tells _ (by omega) k (by omega)]
  simp only [Option.bind_some]
  rw [if_pos trivial, if_pos hn.symm, if_pos (cnts_bd _).1, live33 k (by omega)]
  rfl
theorem joins_l0 (l : List RG) (hl : l.length ≤ 40) : ∀ (d k : Nat) (n i : Int), 0 ≤ i → i + d = l.length → 2 * d + 110 < k → 0 ≤ n → n ≤ 1099511627776 * i → n + cnts (l.drop i.toNat) = cnts l →
    revetmentlaw33_FlatJoins.l0 k l n i = some true := by
  intro d
  induction d with
  | zero =>
    intro k n i h0 h1 hk hn hn2 hs
    obtain ⟨k, rfl⟩ := rounds_succ' hk
    refine joins_end k (by omega) l hl n i ?_ (by omega)
    rw [List.drop_of_length_le (by omega)] at hs
    simpa [cnts] using hs
  | succ d ih =>
    intro k n i h0 h1 hk hn hn2 hs
    obtain ⟨k, rfl⟩ : ∃ m, k = m + 2 := ⟨k - 2, by omega⟩
    rw [rg_drop l i h0 (by omega)] at hs
    have step := fun n' a b c => ih k n' (i + 1) (by omega) (by omega) (by omega) a b c
    simp only [revetmentlaw33_FlatJoins.l0, revetmentlaw33_FlatJoins.j1]
    rw [if_pos (by omega), if_pos h0, wrap_succ i h0 (by omega)]
    generalize rd_T70 l i = x at hs ⊢
    have hx := cnt_bd x
    simp only [cnts, List.map_cons, List.sum_cons] at hs
    simp only [cnts] at step
    have hl33 := live33 k (by omega)
    by_cases c1 : x.f1 > 1099511627776
    · rw [if_pos c1, if_pos trivial, hl33]; rfl
    rw [if_neg c1]
    by_cases c2 : x.f1 < -1099511627776
    · rw [if_pos c2, if_pos trivial, hl33]; rfl
    rw [if_neg c2]
    by_cases c3 : x.f2 > 1099511627776
    · rw [if_pos (by simpa using c3), hl33]; rfl
    rw [if_neg (by simpa using c3), if_pos h0, if_pos (by omega)]
    by_cases c4 : x.f2 > 0
    · have e : cnt x = x.f2 := by unfold cnt mn mx; omega
      rw [e] at hs
      rw [if_pos c4, wrap64_id (by omega) (by omega)]
      exact step _ (by omega) (by omega) (by omega)
    · have e : cnt x = 0 := by unfold cnt mn mx; omega
      rw [e] at hs
      rw [if_neg c4]
      exact step _ (by omega) (by omega) (by omega)
theorem FlatJoins : AskFlatJoins.Pure := by
  intro l h
  refine ⟨400, ?_⟩
  unfold revetmentlaw33_FlatJoins.f
  by_cases c : (l.length : Int) > 40
  · rw [if_pos c, live33 400 (by omega)]; rfl
  · rw [if_neg c]
    exact joins_l0 l (by omega) l.length 400 0 0 (by omega) (by omega) (by omega) (by omega) (by omega) (by simp)
end Go.Proofs.Ythpggaglmdnncaa.Pure
