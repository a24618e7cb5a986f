/- Which block any number is, and back; how many there are, and which ranges may be: as the reference says. No condition. -/
import Derived.Test.YthpggaglmdnncaaFAskFlatOfs
import Derived.Test.YthpggaglmdnncaaFFlatConf
namespace Go.Proofs.Ythpggaglmdnncaa.Pure
open Go.RowKit Go.Proofs.Ythpggaglmdnncaa.M Go.Proofs.Ythpggaglmdnncaa.ConfLib Go.Proofs.Ythpggaglmdnncaa.FlatLib Go.Proofs.Ythpggaglmdnncaa.FlatConf Go.Proofs.Ythpggaglmdnncaa.AskFlatOfs Go.Proofs.YthpggaglmdnncaaW.PrintWords Go.Proofs.YthpggaglmdnncaaW.PrintLast Go.Proofs.YthpggaglmdnncaaW.PrintMore Go.Proofs.YthpggaglmdnncaaW.MyWords Go.Proofs.YthpggaglmdnncaaW.MyPure
section
variable {i v1 v2 v3 v4 v5 v6 v7 v8 v9 v10 : Int} (wv : -9223372036854775808 ≤ v10)
include wv
theorem ofs_j2 (k : Nat) (hk : 100 < k) (z a m : Int) : revetmentlaw33_FlatOfs.j2 k i v1 v2 v3 v4 v5 v6 v7 v8 v9 v10 z a m = some true := by
  obtain ⟨k, rfl⟩ : ∃ q, k = q + 2 := ⟨k - 2, by omega⟩
  have jt : revetmentlaw33_FlatOfs.j3 (k + 1) 0 false true i v1 v2 v3 v4 v5 v6 v7 v8 v9 v10 z a m = some true := by
    simp only [revetmentlaw33_FlatOfs.j3]
    rw [if_pos trivial, if_pos trivial, if_neg (by decide : ¬ (false = true)), live33 _ (by omega)]
    rfl
  simp only [revetmentlaw33_FlatOfs.j2]
  rw [ref_right (k + 1) (by omega) wv]
  by_cases c : RR i v1 v2 v3 v4 v5 v6 v7 v8 v9 v10 z a m = true
  · obtain ⟨hc, h1, h2, h3, h4, h5, h6⟩ := rr_at c
    obtain ⟨g1, g2, g3, g4⟩ := good hc
    by_cases c2 : a = SZ v1 v2 v3 v4 v5 v6 v7 v8 v9 v10
    · rw [back_no (by rintro ⟨_, q⟩; exact q c2)]
      simp only [Option.bind_some]
      rw [if_pos c, ref_size _ _ _ _ _ _ _ _ _ _ _ (k + 1) (by omega)]
      simp only [Option.bind_some]
      rw [decide_eq_true (by omega : a ≥ SZ v1 v2 v3 v4 v5 v6 v7 v8 v9 v10)]
      exact jt
    · rw [back_yes c c2]
      simp only [Option.bind_some]
      rw [if_pos c, ref_size _ _ _ _ _ _ _ _ _ _ _ (k + 1) (by omega)]
      simp only [Option.bind_some]
      rw [decide_eq_false (by omega : ¬ a ≥ SZ v1 v2 v3 v4 v5 v6 v7 v8 v9 v10)]
      have b1 : z * SZ v1 v2 v3 v4 v5 v6 v7 v8 v9 v10 ≤ 64 * 61440 := Int.mul_le_mul (by omega) g2 (by omega) (by omega)
      have b2 : 0 ≤ z * SZ v1 v2 v3 v4 v5 v6 v7 v8 v9 v10 := Int.mul_nonneg h1 (by omega)
      simp only [revetmentlaw33_FlatOfs.j3]
      rw [if_neg (by decide : ¬ (false = true)), ref_size _ _ _ _ _ _ _ _ _ _ _ k (by omega), live33 _ (by omega)]
      simp only [Option.bind_some]
      rw [wrap64_id (i := z * SZ v1 v2 v3 v4 v5 v6 v7 v8 v9 v10) (by omega) (by omega), wrap64_id (by omega) (by omega), if_pos rfl, if_pos trivial]
  · rw [back_no (by rintro ⟨q, _⟩; exact c q)]
    simp only [Option.bind_some]
    rw [if_neg c]
    exact jt
theorem FlatOfs_all (n z a m : Int) : revetmentlaw33_FlatOfs.f 300 i v1 v2 v3 v4 v5 v6 v7 v8 v9 v10 n z a m = some true := by
  have jend := ofs_j2 (i := i) (v1 := v1) (v2 := v2) (v3 := v3) (v4 := v4) (v5 := v5) (v6 := v6) (v7 := v7) (v8 := v8) (v9 := v9) (v10 := v10) wv
  unfold revetmentlaw33_FlatOfs.f
  by_cases hin : 0 ≤ n ∧ n < TT i v1 v2 v3 v4 v5 v6 v7 v8 v9 v10
  · obtain ⟨hc, d0, d1, d2, d3, d4⟩ := div_in n hin.1 hin.2
    obtain ⟨g1, g2, g3, g4⟩ := good hc
    rw [of_yes n hin.1 hin.2, ref_total 300 (by omega) wv]
    simp only [Option.bind_some]
    rw [if_pos (by omega : n ≥ 0), decide_eq_true hin.2]
    simp only [revetmentlaw33_FlatOfs.j0]
    rw [if_neg (by simp), total_f, ref_total 299 (by omega) wv]
    simp only [Option.bind_some]
    rw [if_pos trivial, right_f, ref_right 299 (by omega) wv]
    simp only [Option.bind_some, bne_self_eq_false]
    simp only [revetmentlaw33_FlatOfs.j1]
    rw [if_neg (by decide : ¬ (false = true)), if_pos trivial, ref_size _ _ _ _ _ _ _ _ _ _ _ 298 (by omega)]
    have hr : RR i v1 v2 v3 v4 v5 v6 v7 v8 v9 v10 (n / SZ v1 v2 v3 v4 v5 v6 v7 v8 v9 v10) (n % SZ v1 v2 v3 v4 v5 v6 v7 v8 v9 v10) 1 = true := decide_eq_true ⟨hc, d0, d1, d2, by omega, by omega, by omega⟩
    rw [back_yes hr (by omega), d4]
    simp only [Option.bind_some]
    rw [if_neg (by omega), if_neg (by omega), Int.tdiv_eq_ediv_of_nonneg hin.1, Int.tmod_eq_emod_of_nonneg hin.1, wrap64_id (by omega) (by omega), if_neg (by simp), if_pos trivial, if_pos trivial]
    exact jend 298 (by omega) z a m
  · rw [of_no n hin]
    simp only [Option.bind_some]
    have jj : revetmentlaw33_FlatOfs.j0 300 n false false i v1 v2 v3 v4 v5 v6 v7 v8 v9 v10 z a m 0 0 0 = some true := by
      simp only [revetmentlaw33_FlatOfs.j0]
      rw [if_neg (by simp), total_f, ref_total 299 (by omega) wv]
      simp only [Option.bind_some]
      rw [if_pos trivial, right_f, ref_right 299 (by omega) wv]
      simp only [Option.bind_some, bne_self_eq_false]
      simp only [revetmentlaw33_FlatOfs.j1]
      rw [if_neg (by decide : ¬ (false = true)), if_neg (by decide : ¬ (false = true))]
      exact jend 298 (by omega) z a m
    by_cases c : n ≥ 0
    · rw [if_pos c, ref_total 300 (by omega) wv]
      simp only [Option.bind_some]
      rw [decide_eq_false (by omega)]
      exact jj
    · rw [if_neg c]
      exact jj
end
theorem FlatOfs : AskFlatOfs.Pure := by
  rintro ⟨i, v1, v2, v3, v4, v5, v6, v7, v8, v9, v10⟩ n ⟨z, a, m⟩ h hn hr
  have hw := wf_i64 h.2.2.2.2.2.2.2.2.2.2
  simp only at hw
  exact ⟨300, FlatOfs_all hw.1 n z a m⟩
end Go.Proofs.Ythpggaglmdnncaa.Pure
