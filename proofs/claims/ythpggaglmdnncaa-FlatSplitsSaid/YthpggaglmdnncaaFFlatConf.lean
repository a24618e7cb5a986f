/- Settings, and all zones as one row of blocks: what flat says of any number, and of any range, beside the reference. -/
import Derived.Test.YthpggaglmdnncaaFConfLib
import Derived.Test.YthpggaglmdnncaaFFlatLib
import Derived.ArgAppend
import Derived.Below
import Derived.BigQuiet
import Derived.Deep.AppendLies
import Derived.Deep.CutBlock
import Derived.Deep.DeepCutAuto
import Derived.Deep.Draws
import Derived.Deep.LoopGhost
import Derived.Deep.OwnRows
import Derived.Deep.QuietTactic
import Derived.Deep.RegionHeld3
import Derived.KernelRfl
import Derived.Laws.BitsLemmas
import Derived.Laws.BytesArg
import Derived.Laws.IdiomCopy
import Derived.Laws.MakeOwn
import Derived.Laws.OwnMore
import Derived.Laws.Rows
import Derived.Laws.Slices
import Derived.Lib.AppendStr
import Derived.Lib.ConvBytes
import Derived.Maps.AppendAt
import Derived.OrdersHeld
import Derived.OwnWalk
import Derived.RowKit
import Derived.RowKit3
import Derived.Tactics
import Derived.Test.YthpggaglmdnncaaFMyWords
import Derived.Test.YthpggaglmdnncaaProg
import Derived.Test.YthpggaglmdnncaaFWApart
import Derived.Test.YthpggaglmdnncaaFWArr
import Derived.Test.YthpggaglmdnncaaFWAt
import Derived.Test.YthpggaglmdnncaaFWEqStruct
import Derived.Test.YthpggaglmdnncaaFWFoot
import Derived.Test.YthpggaglmdnncaaFWFootNe
import Derived.Test.YthpggaglmdnncaaFWFour
import Derived.Test.YthpggaglmdnncaaFWGuard
import Derived.Test.YthpggaglmdnncaaFWInv
import Derived.Test.YthpggaglmdnncaaFWInvWords
import Derived.Test.YthpggaglmdnncaaFWKept
import Derived.Test.YthpggaglmdnncaaFWLast
import Derived.Test.YthpggaglmdnncaaFWMore
import Derived.Test.YthpggaglmdnncaaFWN
import Derived.Test.YthpggaglmdnncaaFWNEv
import Derived.Test.YthpggaglmdnncaaFWQPut
import Derived.Test.YthpggaglmdnncaaFWRepsOne
import Derived.Test.YthpggaglmdnncaaFWShare
import Derived.Test.YthpggaglmdnncaaFWTab
import Derived.Test.YthpggaglmdnncaaFWWords
import Derived.Test.YthpggaglmdnncaaFWZeros
import Derived.WalkKit
import Derived.WideLaws
import Derived.Test.YthpggaglmdnncaaFMconf
import Derived.Test.YthpggaglmdnncaaFMconfp2
import Derived.Test.YthpggaglmdnncaaFMflat
import Derived.Test.YthpggaglmdnncaaFMrlaw33
import Derived.Test.YthpggaglmdnncaaFMrref07
import Derived.Test.YthpggaglmdnncaaFMrref33
namespace Go.Proofs.Ythpggaglmdnncaa.FlatConf
open Go.RowKit Go.Proofs.Ythpggaglmdnncaa.M Go.Proofs.Ythpggaglmdnncaa.ConfLib Go.Proofs.Ythpggaglmdnncaa.FlatLib Go.Proofs.YthpggaglmdnncaaW.PrintWords Go.Proofs.YthpggaglmdnncaaW.PrintLast Go.Proofs.YthpggaglmdnncaaW.PrintMore Go.Proofs.YthpggaglmdnncaaW.MyWords Go.Proofs.YthpggaglmdnncaaW.MyPure
theorem live33_30 : revetmentlaw33_live.f 30 = some true := by decide +kernel
theorem live33 (k : Nat) (hk : 30 ≤ k) : revetmentlaw33_live.f k = some true := at_rounds (fun k => revetmentlaw33_live.mono k) hk live33_30
section
variable (i v1 v2 v3 v4 v5 v6 v7 v8 v9 v10 : Int)
def SZ : Int := wrap64 (conf_Stripes.v v1 v2 v3 v4 v5 v6 v7 v8 v9 v10 * conf_Row.v v1 v2 v3 v4 v5 v6 v7 v8 v9 v10)
def TT : Int := if conf_Check.v i v1 v2 v3 v4 v5 v6 v7 v8 v9 v10 = 0 then v5 * SZ v1 v2 v3 v4 v5 v6 v7 v8 v9 v10 else 0
theorem size_f : conf_Size.f i v1 v2 v3 v4 v5 v6 v7 v8 v9 v10 = some (SZ v1 v2 v3 v4 v5 v6 v7 v8 v9 v10) := rfl
theorem ref_size (k : Nat) (hk : 10 < k) : revetmentref07_Size.f k i v1 v2 v3 v4 v5 v6 v7 v8 v9 v10 = some (SZ v1 v2 v3 v4 v5 v6 v7 v8 v9 v10) := by
  unfold revetmentref07_Size.f
  rw [numbers_tells k hk]
  rfl
theorem check_f : conf_Check.f i v1 v2 v3 v4 v5 v6 v7 v8 v9 v10 = some (conf_Check.v i v1 v2 v3 v4 v5 v6 v7 v8 v9 v10) := rfl
end
section
variable {i v1 v2 v3 v4 v5 v6 v7 v8 v9 v10 : Int}
theorem good (h : conf_Check.v i v1 v2 v3 v4 v5 v6 v7 v8 v9 v10 = 0) : 1 ≤ SZ v1 v2 v3 v4 v5 v6 v7 v8 v9 v10 ∧ SZ v1 v2 v3 v4 v5 v6 v7 v8 v9 v10 ≤ 61440 ∧ 1 ≤ v5 ∧ v5 ≤ 64 := by
  have hok : conf_Check.ok i v1 v2 v3 v4 v5 v6 v7 v8 v9 v10 = true := by
    cases hh : conf_Check.ok i v1 v2 v3 v4 v5 v6 v7 v8 v9 v10 with
    | true => rfl
    | false => unfold conf_Check.v at h; rw [hh] at h; simp at h
  simp only [conf_Check.ok, inB, Bool.and_eq_true, decide_eq_true_eq, beq_iff_eq] at hok
  obtain ⟨c0, c1, c2, c3, c4, cm, c5, c6, c7, _, c9, c8, ca⟩ := hok
  have hs : saneB [v1, v2, v3, v4, v5, v6, v7, v8, v9, v10] = true := by
    simp only [saneB, okN, List.all_cons, List.all_nil, Bool.and_eq_true, decide_eq_true_eq, Bool.and_true]
    refine ⟨⟨by omega, by omega⟩, ⟨by omega, by omega⟩, ⟨by omega, by omega⟩, ⟨by omega, by omega⟩, ⟨by omega, by omega⟩, ⟨by omega, by omega⟩, ⟨by omega, by omega⟩, ⟨by omega, by omega⟩, ⟨by omega, by omega⟩, by omega, by omega⟩
  have e1 : conf_Stripes.v v1 v2 v3 v4 v5 v6 v7 v8 v9 v10 = v4 / v2 := by unfold conf_Stripes.v; rw [if_pos hs]
  have e2 : conf_Row.v v1 v2 v3 v4 v5 v6 v7 v8 v9 v10 = (v1 - 1) * v2 := by unfold conf_Row.v; rw [if_pos hs]
  have hq := Int.emod_add_mul_ediv v4 v2
  rw [cm, Int.zero_add] at hq
  have e3 : v4 / v2 * ((v1 - 1) * v2) = v4 * (v1 - 1) := by
    rw [Int.mul_comm (v1 - 1) v2, ← Int.mul_assoc, Int.mul_comm (v4 / v2) v2, hq]
  have b1 : 1 * 2 ≤ v4 * (v1 - 1) := Int.mul_le_mul (by omega) (by omega) (by omega) (by omega)
  have b2 : v4 * (v1 - 1) ≤ 4096 * 15 := Int.mul_le_mul (by omega) (by omega) (by omega) (by omega)
  have e4 : SZ v1 v2 v3 v4 v5 v6 v7 v8 v9 v10 = v4 * (v1 - 1) := by
    unfold SZ
    rw [e1, e2, e3, wrap64_id (by omega) (by omega)]
  rw [e4]
  exact ⟨by omega, by omega, by omega, by omega⟩
theorem tt_bd : 0 ≤ TT i v1 v2 v3 v4 v5 v6 v7 v8 v9 v10 ∧ TT i v1 v2 v3 v4 v5 v6 v7 v8 v9 v10 ≤ 3932160 := by
  unfold TT
  by_cases h : conf_Check.v i v1 v2 v3 v4 v5 v6 v7 v8 v9 v10 = 0
  · rw [if_pos h]
    obtain ⟨a, b, c, d⟩ := good h
    have h1 : v5 * SZ v1 v2 v3 v4 v5 v6 v7 v8 v9 v10 ≤ 64 * 61440 := Int.mul_le_mul (by omega) b (by omega) (by omega)
    have h2 : 0 ≤ v5 * SZ v1 v2 v3 v4 v5 v6 v7 v8 v9 v10 := Int.mul_nonneg (by omega) (by omega)
    omega
  · rw [if_neg h]; omega
theorem tt_wrap (h : conf_Check.v i v1 v2 v3 v4 v5 v6 v7 v8 v9 v10 = 0) : wrap64 (v5 * SZ v1 v2 v3 v4 v5 v6 v7 v8 v9 v10) = TT i v1 v2 v3 v4 v5 v6 v7 v8 v9 v10 ∧ TT i v1 v2 v3 v4 v5 v6 v7 v8 v9 v10 = v5 * SZ v1 v2 v3 v4 v5 v6 v7 v8 v9 v10 := by
  have := tt_bd (i := i) (v1 := v1) (v2 := v2) (v3 := v3) (v4 := v4) (v5 := v5) (v6 := v6) (v7 := v7) (v8 := v8) (v9 := v9) (v10 := v10)
  have e : TT i v1 v2 v3 v4 v5 v6 v7 v8 v9 v10 = v5 * SZ v1 v2 v3 v4 v5 v6 v7 v8 v9 v10 := by unfold TT; rw [if_pos h]
  rw [← e]
  exact ⟨wrap64_id (by omega) (by omega), rfl⟩
theorem total_f : flat_Total.f i v1 v2 v3 v4 v5 v6 v7 v8 v9 v10 = some (TT i v1 v2 v3 v4 v5 v6 v7 v8 v9 v10) := by
  unfold flat_Total.f
  rw [check_f]
  simp only [Option.bind_some]
  by_cases h : conf_Check.v i v1 v2 v3 v4 v5 v6 v7 v8 v9 v10 = 0
  · rw [if_pos h, size_f]
    simp only [Option.bind_some]
    rw [(tt_wrap h).1]
  · rw [if_neg h]; unfold TT; rw [if_neg h]
theorem ref_total (k : Nat) (hk : 20 < k) (wv : -9223372036854775808 ≤ v10) : revetmentref33_Total.f k i v1 v2 v3 v4 v5 v6 v7 v8 v9 v10 = some (TT i v1 v2 v3 v4 v5 v6 v7 v8 v9 v10) := by
  unfold revetmentref33_Total.f
  rw [check_tells k hk _ _ _ _ _ _ _ _ _ _ _ wv]
  simp only [Option.bind_some]
  by_cases h : conf_Check.v i v1 v2 v3 v4 v5 v6 v7 v8 v9 v10 = 0
  · rw [if_pos h, ref_size _ _ _ _ _ _ _ _ _ _ _ k (by omega)]
    simp only [Option.bind_some]
    rw [(tt_wrap h).1]
  · rw [if_neg h]; unfold TT; rw [if_neg h]
theorem div_in (n : Int) (h0 : 0 ≤ n) (h1 : n < TT i v1 v2 v3 v4 v5 v6 v7 v8 v9 v10) : conf_Check.v i v1 v2 v3 v4 v5 v6 v7 v8 v9 v10 = 0 ∧ 0 ≤ n / SZ v1 v2 v3 v4 v5 v6 v7 v8 v9 v10 ∧ n / SZ v1 v2 v3 v4 v5 v6 v7 v8 v9 v10 < v5 ∧ 0 ≤ n % SZ v1 v2 v3 v4 v5 v6 v7 v8 v9 v10 ∧ n % SZ v1 v2 v3 v4 v5 v6 v7 v8 v9 v10 < SZ v1 v2 v3 v4 v5 v6 v7 v8 v9 v10 ∧ n / SZ v1 v2 v3 v4 v5 v6 v7 v8 v9 v10 * SZ v1 v2 v3 v4 v5 v6 v7 v8 v9 v10 + n % SZ v1 v2 v3 v4 v5 v6 v7 v8 v9 v10 = n := by
  have hc : conf_Check.v i v1 v2 v3 v4 v5 v6 v7 v8 v9 v10 = 0 := by
    rcases Decidable.em (conf_Check.v i v1 v2 v3 v4 v5 v6 v7 v8 v9 v10 = 0) with h | h
    · exact h
    · unfold TT at h1; rw [if_neg h] at h1; omega
  obtain ⟨a, b, c, d⟩ := good hc
  have e := (tt_wrap hc).2
  have hq := Int.emod_add_mul_ediv n (SZ v1 v2 v3 v4 v5 v6 v7 v8 v9 v10)
  refine ⟨hc, Int.ediv_nonneg h0 (by omega), Int.ediv_lt_of_lt_mul (by omega) (by rw [← e]; exact h1), Int.emod_nonneg n (by omega), Int.emod_lt_of_pos n (by omega), ?_⟩
  rw [Int.mul_comm]
  omega
theorem of_yes (n : Int) (h0 : 0 ≤ n) (h1 : n < TT i v1 v2 v3 v4 v5 v6 v7 v8 v9 v10) : flat_Of.f i v1 v2 v3 v4 v5 v6 v7 v8 v9 v10 n = some (n / SZ v1 v2 v3 v4 v5 v6 v7 v8 v9 v10, n % SZ v1 v2 v3 v4 v5 v6 v7 v8 v9 v10, 1, true) := by
  obtain ⟨hc, d0, d1, d2, d3, d4⟩ := div_in n h0 h1
  obtain ⟨a, b, c, d⟩ := good hc
  unfold flat_Of.f
  rw [if_neg (by omega), total_f, size_f]
  simp only [Option.bind_some]
  rw [if_neg (by omega), if_neg (by omega), Int.tdiv_eq_ediv_of_nonneg h0, Int.tmod_eq_emod_of_nonneg h0, wrap64_id (by omega) (by omega)]
theorem of_no (n : Int) (h : ¬ (0 ≤ n ∧ n < TT i v1 v2 v3 v4 v5 v6 v7 v8 v9 v10)) : flat_Of.f i v1 v2 v3 v4 v5 v6 v7 v8 v9 v10 n = some (0, 0, 0, false) := by
  unfold flat_Of.f
  by_cases c : n < 0
  · rw [if_pos c]
  · rw [if_neg c, total_f]
    simp only [Option.bind_some]
    rw [if_pos (by omega)]
end
section
variable (i v1 v2 v3 v4 v5 v6 v7 v8 v9 v10 z a m : Int)
def RR : Bool := decide (conf_Check.v i v1 v2 v3 v4 v5 v6 v7 v8 v9 v10 = 0 ∧ 0 ≤ z ∧ z < v5 ∧ 0 ≤ a ∧ 0 ≤ m ∧ a ≤ SZ v1 v2 v3 v4 v5 v6 v7 v8 v9 v10 ∧ m ≤ SZ v1 v2 v3 v4 v5 v6 v7 v8 v9 v10 - a)
end
section
variable {i v1 v2 v3 v4 v5 v6 v7 v8 v9 v10 z a m : Int}
theorem right_f : flat_Right.f i v1 v2 v3 v4 v5 v6 v7 v8 v9 v10 z a m = some (RR i v1 v2 v3 v4 v5 v6 v7 v8 v9 v10 z a m) := by
  unfold flat_Right.f RR
  rw [size_f, check_f]
  simp only [Option.bind_some]
  by_cases h : conf_Check.v i v1 v2 v3 v4 v5 v6 v7 v8 v9 v10 = 0
  · obtain ⟨g1, g2, g3, g4⟩ := good h
    rw [if_pos h]
    by_cases c1 : z ≥ 0
    · rw [if_pos c1]
      by_cases c2 : z < v5
      · rw [if_pos c2]
        by_cases c3 : a ≥ 0
        · rw [if_pos c3]
          by_cases c4 : m ≥ 0
          · rw [if_pos c4]
            by_cases c5 : a ≤ SZ v1 v2 v3 v4 v5 v6 v7 v8 v9 v10
            · rw [if_pos c5, wrap64_id (by omega) (by omega)]
              congr 1
              apply decide_eq_decide.2
              constructor
              · intro c6; exact ⟨h, by omega, by omega, by omega, by omega, by omega, by omega⟩
              · rintro ⟨_, _, _, _, _, _, c6⟩; exact c6
            · rw [if_neg c5, decide_eq_false (by rintro ⟨_, _, _, _, _, c6, _⟩; exact c5 c6)]
          · rw [if_neg c4, decide_eq_false (by rintro ⟨_, _, _, _, c6, _⟩; exact c4 c6)]
        · rw [if_neg c3, decide_eq_false (by rintro ⟨_, _, _, c6, _⟩; exact c3 c6)]
      · rw [if_neg c2, decide_eq_false (by rintro ⟨_, _, c6, _⟩; exact c2 c6)]
    · rw [if_neg c1, decide_eq_false (by rintro ⟨_, c6, _⟩; exact c1 c6)]
  · rw [if_neg h, decide_eq_false (by rintro ⟨c6, _⟩; exact h c6)]
theorem ref_right (k : Nat) (hk : 40 < k) (wv : -9223372036854775808 ≤ v10) : revetmentref33_Right.f k i v1 v2 v3 v4 v5 v6 v7 v8 v9 v10 z a m = some (RR i v1 v2 v3 v4 v5 v6 v7 v8 v9 v10 z a m) := by
  obtain ⟨k, rfl⟩ : ∃ q, k = q + 1 := ⟨k - 1, by omega⟩
  have jt : revetmentref33_Right.j0 (k + 1) true i v1 v2 v3 v4 v5 v6 v7 v8 v9 v10 z a m = some false := by
    simp only [revetmentref33_Right.j0]
    rw [if_pos trivial]
  unfold revetmentref33_Right.f RR
  rw [check_tells (k + 1) (by omega) _ _ _ _ _ _ _ _ _ _ _ wv]
  simp only [Option.bind_some]
  by_cases h : conf_Check.v i v1 v2 v3 v4 v5 v6 v7 v8 v9 v10 = 0
  · obtain ⟨g1, g2, g3, g4⟩ := good h
    rw [if_pos h]
    by_cases c1 : z < 0
    · rw [if_pos c1, jt, decide_eq_false (by rintro ⟨_, c6, _⟩; omega)]
    rw [if_neg c1]
    by_cases c2 : z ≥ v5
    · rw [if_pos c2, jt, decide_eq_false (by rintro ⟨_, _, c6, _⟩; omega)]
    rw [if_neg c2]
    by_cases c3 : a < 0
    · rw [if_pos c3, jt, decide_eq_false (by rintro ⟨_, _, _, c6, _⟩; omega)]
    rw [if_neg c3]
    by_cases c4 : m < 0
    · rw [decide_eq_true c4, jt, decide_eq_false (by rintro ⟨_, _, _, _, c6, _⟩; omega)]
    rw [decide_eq_false c4]
    simp only [revetmentref33_Right.j0]
    rw [if_neg (by decide : ¬ (false = true)), ref_size _ _ _ _ _ _ _ _ _ _ _ k (by omega)]
    simp only [Option.bind_some]
    by_cases c5 : a ≤ SZ v1 v2 v3 v4 v5 v6 v7 v8 v9 v10
    · rw [if_pos c5, wrap64_id (by omega) (by omega)]
      congr 1
      apply decide_eq_decide.2
      constructor
      · intro c6; exact ⟨h, by omega, by omega, by omega, by omega, by omega, by omega⟩
      · rintro ⟨_, _, _, _, _, _, c6⟩; exact c6
    · rw [if_neg c5, decide_eq_false (by rintro ⟨_, _, _, _, _, c6, _⟩; exact c5 c6)]
  · rw [if_neg h, jt, decide_eq_false (by rintro ⟨c6, _⟩; exact h c6)]
theorem rr_at (h : RR i v1 v2 v3 v4 v5 v6 v7 v8 v9 v10 z a m = true) : conf_Check.v i v1 v2 v3 v4 v5 v6 v7 v8 v9 v10 = 0 ∧ 0 ≤ z ∧ z < v5 ∧ 0 ≤ a ∧ 0 ≤ m ∧ a ≤ SZ v1 v2 v3 v4 v5 v6 v7 v8 v9 v10 ∧ m ≤ SZ v1 v2 v3 v4 v5 v6 v7 v8 v9 v10 - a := of_decide_eq_true h
theorem back_yes (h : RR i v1 v2 v3 v4 v5 v6 v7 v8 v9 v10 z a m = true) (ha : a ≠ SZ v1 v2 v3 v4 v5 v6 v7 v8 v9 v10) : flat_Back.f i v1 v2 v3 v4 v5 v6 v7 v8 v9 v10 z a m = some (z * SZ v1 v2 v3 v4 v5 v6 v7 v8 v9 v10 + a, true) := by
  obtain ⟨hc, h1, h2, h3, h4, h5, h6⟩ := rr_at h
  obtain ⟨g1, g2, g3, g4⟩ := good hc
  have b1 : z * SZ v1 v2 v3 v4 v5 v6 v7 v8 v9 v10 ≤ 64 * 61440 := Int.mul_le_mul (by omega) g2 (by omega) (by omega)
  have b2 : 0 ≤ z * SZ v1 v2 v3 v4 v5 v6 v7 v8 v9 v10 := Int.mul_nonneg h1 (by omega)
  unfold flat_Back.f
  rw [right_f, h, size_f]
  simp only [Option.bind_some, if_true]
  rw [if_neg ha, wrap64_id (i := z * SZ v1 v2 v3 v4 v5 v6 v7 v8 v9 v10) (by omega) (by omega), wrap64_id (by omega) (by omega)]
theorem back_no (h : ¬ (RR i v1 v2 v3 v4 v5 v6 v7 v8 v9 v10 z a m = true ∧ a ≠ SZ v1 v2 v3 v4 v5 v6 v7 v8 v9 v10)) : flat_Back.f i v1 v2 v3 v4 v5 v6 v7 v8 v9 v10 z a m = some (0, false) := by
  unfold flat_Back.f
  rw [right_f, size_f]
  simp only [Option.bind_some]
  by_cases c : RR i v1 v2 v3 v4 v5 v6 v7 v8 v9 v10 z a m = true
  · rw [if_pos c, if_pos (by rcases Decidable.em (a = SZ v1 v2 v3 v4 v5 v6 v7 v8 v9 v10) with e | e; exact e; exact absurd ⟨c, e⟩ h)]
  · rw [if_neg c]
end
end Go.Proofs.Ythpggaglmdnncaa.FlatConf
