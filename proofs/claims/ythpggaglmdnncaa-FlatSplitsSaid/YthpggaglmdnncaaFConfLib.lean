/- Settings: what conf's functions compute, beside the reference's. -/
import Derived.Test.YthpggaglmdnncaaFMyPure
import Derived.ArgAppend
import Derived.Below
import Derived.BigQuiet
import Derived.Deep.AppendLies
import Derived.Deep.CutBlock
import Derived.Deep.DeepCutAuto
import Derived.Deep.Draws
import Derived.Deep.LoopGhost
import Derived.Deep.OwnRows
import Derived.Deep.QuietTactic
import Derived.Deep.RegionHeld3
import Derived.KernelRfl
import Derived.Laws.BitsLemmas
import Derived.Laws.BytesArg
import Derived.Laws.IdiomCopy
import Derived.Laws.MakeOwn
import Derived.Laws.OwnMore
import Derived.Laws.Rows
import Derived.Laws.Slices
import Derived.Lib.AppendStr
import Derived.Lib.ConvBytes
import Derived.Maps.AppendAt
import Derived.OrdersHeld
import Derived.OwnWalk
import Derived.RowKit
import Derived.RowKit3
import Derived.Tactics
import Derived.Test.YthpggaglmdnncaaFMyWords
import Derived.Test.YthpggaglmdnncaaProg
import Derived.Test.YthpggaglmdnncaaFWApart
import Derived.Test.YthpggaglmdnncaaFWArr
import Derived.Test.YthpggaglmdnncaaFWAt
import Derived.Test.YthpggaglmdnncaaFWEqStruct
import Derived.Test.YthpggaglmdnncaaFWFoot
import Derived.Test.YthpggaglmdnncaaFWFootNe
import Derived.Test.YthpggaglmdnncaaFWFour
import Derived.Test.YthpggaglmdnncaaFWGuard
import Derived.Test.YthpggaglmdnncaaFWInv
import Derived.Test.YthpggaglmdnncaaFWInvWords
import Derived.Test.YthpggaglmdnncaaFWKept
import Derived.Test.YthpggaglmdnncaaFWLast
import Derived.Test.YthpggaglmdnncaaFWMore
import Derived.Test.YthpggaglmdnncaaFWN
import Derived.Test.YthpggaglmdnncaaFWNEv
import Derived.Test.YthpggaglmdnncaaFWQPut
import Derived.Test.YthpggaglmdnncaaFWRepsOne
import Derived.Test.YthpggaglmdnncaaFWShare
import Derived.Test.YthpggaglmdnncaaFWTab
import Derived.Test.YthpggaglmdnncaaFWWords
import Derived.Test.YthpggaglmdnncaaFWZeros
import Derived.WalkKit
import Derived.WideLaws
import Derived.Test.YthpggaglmdnncaaFMconf
import Derived.Test.YthpggaglmdnncaaFMconfp2
import Derived.Test.YthpggaglmdnncaaFMrref07
namespace Go.Proofs.Ythpggaglmdnncaa.ConfLib
open Go.RowKit Go.Proofs.Ythpggaglmdnncaa.M Go.Proofs.YthpggaglmdnncaaW.PrintWords Go.Proofs.YthpggaglmdnncaaW.PrintLast Go.Proofs.YthpggaglmdnncaaW.PrintMore Go.Proofs.YthpggaglmdnncaaW.MyWords Go.Proofs.YthpggaglmdnncaaW.MyPure
theorem sane_l0_tells (l : List Int) (hl : l.length ≤ 100) : ∀ (d k : Nat) (j : Int), 0 ≤ j → j + d = l.length → d < k → revetmentref07_sane.l0 k l j = some (saneB (l.drop j.toNat)) := by
  intro d
  induction d with
  | zero =>
    intro k j h0 h1 hk
    obtain ⟨k, rfl⟩ := rounds_succ' hk
    simp only [revetmentref07_sane.l0]
    rw [if_neg (by omega), List.drop_of_length_le (by omega)]
    rfl
  | succ d ih =>
    intro k j h0 h1 hk
    obtain ⟨k, rfl⟩ := rounds_succ' hk
    simp only [revetmentref07_sane.l0]
    rw [if_pos (by omega), if_pos h0, drop_rd l j h0 (by omega), wrap_succ j h0 (by omega), ih k (j + 1) (by omega) (by omega) (by omega)]
    show _ = some (okN (rd l j) && saneB _)
    by_cases c1 : rd l j < 1
    · have z : okN (rd l j) = false := by simp [okN]; omega
      rw [if_pos c1, z]; rfl
    · by_cases c2 : rd l j > 1048576
      · have z : okN (rd l j) = false := by simp [okN]; omega
        rw [if_neg c1, if_pos c2, z]; rfl
      · have z : okN (rd l j) = true := by simp [okN]; omega
        rw [if_neg c1, if_neg c2, z]; rfl
theorem sane_tells (k : Nat) (hk : 10 < k) (i v1 v2 v3 v4 v5 v6 v7 v8 v9 v10 : Int) : revetmentref07_sane.f k i v1 v2 v3 v4 v5 v6 v7 v8 v9 v10 = some (saneB [v1, v2, v3, v4, v5, v6, v7, v8, v9, v10]) := by
  unfold revetmentref07_sane.f revetmentref07_List.f
  simp only [Option.bind_some]
  exact sane_l0_tells [v1, v2, v3, v4, v5, v6, v7, v8, v9, v10] (by simp) 10 k 0 (by omega) (by simp) hk
theorem ceil (n d : Int) (hd : 1 ≤ d) : (n + d - 1) / d = if n % d > 0 then n / d + 1 else n / d := by
  have h := Int.emod_add_mul_ediv n d
  have r0 := Int.emod_nonneg n (by omega : d ≠ 0)
  have r1 := Int.emod_lt_of_pos n (by omega : 0 < d)
  split
  · have e : n + d - 1 = (n % d - 1) + d * (n / d + 1) := by rw [Int.mul_add]; omega
    rw [e, Int.add_mul_ediv_left _ _ (by omega : d ≠ 0), Int.ediv_eq_zero_of_lt (by omega) (by omega)]; omega
  · have e : n + d - 1 = (d - 1) + d * (n / d) := by omega
    rw [e, Int.add_mul_ediv_left _ _ (by omega : d ≠ 0), Int.ediv_eq_zero_of_lt (by omega) (by omega)]; omega
def dataV (v1 v2 v3 v4 v5 v6 v7 v8 v9 v10 : Int) : Int := if saneB [v1, v2, v3, v4, v5, v6, v7, v8, v9, v10] = true then v1 - 1 else 0
def slotsV (v1 v2 v3 v4 v5 v6 v7 v8 v9 v10 : Int) : Int := if saneB [v1, v2, v3, v4, v5, v6, v7, v8, v9, v10] = true then v5 + v6 else 0
theorem numbers_tells (k : Nat) (hk : 10 < k) (i v1 v2 v3 v4 v5 v6 v7 v8 v9 v10 : Int) : revetmentref07_Numbers.f k i v1 v2 v3 v4 v5 v6 v7 v8 v9 v10 = some (dataV v1 v2 v3 v4 v5 v6 v7 v8 v9 v10, conf_Row.v v1 v2 v3 v4 v5 v6 v7 v8 v9 v10, conf_Stripes.v v1 v2 v3 v4 v5 v6 v7 v8 v9 v10, wrap64 (conf_Stripes.v v1 v2 v3 v4 v5 v6 v7 v8 v9 v10 * conf_Row.v v1 v2 v3 v4 v5 v6 v7 v8 v9 v10), slotsV v1 v2 v3 v4 v5 v6 v7 v8 v9 v10, conf_All.v v1 v2 v3 v4 v5 v6 v7 v8 v9 v10, conf_Room.v v1 v2 v3 v4 v5 v6 v7 v8 v9 v10) := by
  unfold revetmentref07_Numbers.f dataV conf_Row.v conf_Stripes.v slotsV conf_All.v conf_Room.v
  rw [sane_tells k hk]
  simp only [Option.bind_some]
  by_cases hs : saneB [v1, v2, v3, v4, v5, v6, v7, v8, v9, v10] = true
  · rw [if_pos hs, if_pos hs, if_pos hs, if_pos hs, if_pos hs, if_pos hs, if_pos hs]
    obtain ⟨⟨a1, b1⟩, ⟨a2, b2⟩, ⟨a3, b3⟩, ⟨a4, b4⟩, ⟨a5, b5⟩, ⟨a6, b6⟩, ⟨a7, b7⟩, ⟨a8, b8⟩, ⟨a9, b9⟩, ⟨a10, b10⟩⟩ := saneB_at hs
    clear hs a8 b8 a9 b9 a10 b10
    rw [if_neg (by omega : ¬ v3 = 0)]
    have w1 : wrap64 (v1 - 1) = v1 - 1 := wrap64_id (by omega) (by omega)
    have w2 := row_wrap v1 v2 a1 b1 a2 b2
    have w3 := div_wrap v4 v2 a4 b4 a2
    have w5 : wrap64 (v5 + v6) = v5 + v6 := wrap64_id (by omega) (by omega)
    have w6 : wrap64 (v5 + v6 + v7) = v5 + v6 + v7 := wrap64_id (by omega) (by omega)
    have h1 : (v5 + 1) * v2 ≤ 1048577 * 1048576 := Int.mul_le_mul (by omega) b2 (by omega) (by omega)
    have h2 : 0 ≤ (v5 + 1) * v2 := Int.mul_nonneg (by omega) (by omega)
    have h3 : (v5 + 1) * v2 * v3 ≤ 1048577 * 1048576 * 1048576 := Int.mul_le_mul h1 b3 (by omega) (by omega)
    have h4 : 0 ≤ (v5 + 1) * v2 * v3 := Int.mul_nonneg h2 (by omega)
    have h5 : 0 ≤ v4 / v2 := Int.ediv_nonneg (by omega) (by omega)
    have h6 : v4 / v2 ≤ 1048576 := Int.le_trans (Int.ediv_le_self _ (by omega)) b4
    have h7 : v4 / v2 * (v1 - 1) ≤ 1048576 * 1048576 := Int.mul_le_mul h6 (by omega) (by omega) (by omega)
    have h8 : 0 ≤ v4 / v2 * (v1 - 1) := Int.mul_nonneg h5 (by omega)
    have w7 : wrap64 (v4 / v2 * (v1 - 1)) = v4 / v2 * (v1 - 1) := wrap64_id (by omega) (by omega)
    have w8 : wrap64 (v5 + 1) = v5 + 1 := wrap64_id (by omega) (by omega)
    have w9 : wrap64 ((v5 + 1) * v2) = (v5 + 1) * v2 := wrap64_id (by omega) (by omega)
    have wa : wrap64 ((v5 + 1) * v2 * v3) = (v5 + 1) * v2 * v3 := wrap64_id (by omega) (by omega)
    have wb : wrap64 (8 * v1) = 8 * v1 := wrap64_id (by omega) (by omega)
    have wc : wrap64 (48 * v5) = 48 * v5 := wrap64_id (by omega) (by omega)
    have wd : wrap64 (320 + 8 * v1) = 320 + 8 * v1 := wrap64_id (by omega) (by omega)
    have we : wrap64 (320 + 8 * v1 + 48 * v5) = 320 + 8 * v1 + 48 * v5 := wrap64_id (by omega) (by omega)
    rw [w1, w2, w3, w5, w7, w8, w9, wa, wb, wc, wd, we, Int.mul_assoc (v4 / v2) (v1 - 1) v2]
    have er : 320 + 48 * v5 + 8 * v1 + (v5 + 1) * v2 * v3 = 320 + 8 * v1 + 48 * v5 + (v5 + 1) * v2 * v3 := by omega
    rw [er, ceil _ v3 a3]
    generalize hp : (v5 + 1) * v2 * v3 = p at *
    have wf : wrap64 (320 + 8 * v1 + 48 * v5 + p) = 320 + 8 * v1 + 48 * v5 + p := wrap64_id (by omega) (by omega)
    have hB0 : 0 ≤ 320 + 8 * v1 + 48 * v5 + p := by omega
    have hB1 : 320 + 8 * v1 + 48 * v5 + p ≤ 1000000000000000000000000 := by omega
    have hB2 : 320 + 8 * v1 + 48 * v5 + p ≤ 1152923000000000000 := by omega
    rw [wf, Int.tmod_eq_emod_of_nonneg hB0, Int.tdiv_eq_ediv_of_nonneg hB0, w6]
    have wz : v5 + v6 + v7 = v7 + v5 + v6 := by omega
    rw [wz, if_neg (by omega : ¬ v2 = 0)]
    have q0 : 0 ≤ (320 + 8 * v1 + 48 * v5 + p) / v3 := Int.ediv_nonneg hB0 (by omega)
    have q1 : (320 + 8 * v1 + 48 * v5 + p) / v3 ≤ 1152923000000000000 := Int.le_trans (Int.ediv_le_self _ hB0) hB2
    generalize (320 + 8 * v1 + 48 * v5 + p) / v3 = q at *
    have wg : wrap64 q = q := wrap64_id (by omega) (by omega)
    have wh : wrap64 (q + 1) = q + 1 := wrap64_id (by omega) (by omega)
    have wi : wrap64 (q + 1 + 2) = q + 1 + 2 := wrap64_id (by omega) (by omega)
    have wj : wrap64 (q + 2) = q + 2 := wrap64_id (by omega) (by omega)
    rw [wg, wh, wi, wj]
    by_cases c : (320 + 8 * v1 + 48 * v5 + p) % v3 > 0
    · rw [if_pos c, if_pos c]
    · rw [if_neg c, if_neg c, if_neg (by omega : ¬ v2 = 0)]
  · rw [if_neg hs, if_neg hs, if_neg hs, if_neg hs, if_neg hs, if_neg hs, if_neg hs]
    have : wrap64 (0 * 0) = 0 := by decide +kernel
    rw [this]
theorem check_tells (k : Nat) (hk : 20 < k) (i v1 v2 v3 v4 v5 v6 v7 v8 v9 v10 : Int) (wv : -9223372036854775808 ≤ v10) : revetmentref07_Check.f k i v1 v2 v3 v4 v5 v6 v7 v8 v9 v10 = some (conf_Check.v i v1 v2 v3 v4 v5 v6 v7 v8 v9 v10) := by
  obtain ⟨k, rfl⟩ : ∃ m, k = m + 4 := ⟨k - 4, by omega⟩
  have nok : conf_Check.ok i v1 v2 v3 v4 v5 v6 v7 v8 v9 v10 = false → some (conf_Check.v i v1 v2 v3 v4 v5 v6 v7 v8 v9 v10) = some (1 : Int) := fun h => by unfold conf_Check.v; rw [h]; rfl
  have t0 : ∀ m, revetmentref07_Check.j0 (m + 1) true i v1 v2 v3 v4 v5 v6 v7 v8 v9 v10 = some 1 := fun m => by simp only [revetmentref07_Check.j0]; rw [if_pos trivial]
  have t1 : ∀ m, revetmentref07_Check.j1 (m + 1) true i v1 v2 v3 v4 v5 v6 v7 v8 v9 v10 = some 1 := fun m => by simp only [revetmentref07_Check.j1]; rw [if_pos trivial]
  have t2 : ∀ m, revetmentref07_Check.j2 (m + 1) true i v1 v2 v3 v4 v5 v6 v7 v8 v9 v10 = some 1 := fun m => by simp only [revetmentref07_Check.j2]; rw [if_pos trivial]
  have t3 : ∀ m, revetmentref07_Check.j3 (m + 1) true i v1 v2 v3 v4 v5 v6 v7 v8 v9 v10 = some 1 := fun m => by simp only [revetmentref07_Check.j3]; rw [if_pos trivial]
  unfold revetmentref07_Check.f
  by_cases c1 : i < 0
  · rw [if_pos c1, t0, nok]
    simp only [conf_Check.ok, inB]
    rw [decide_eq_false (by omega : ¬ 0 ≤ i)]; rfl
  rw [if_neg c1]
  by_cases c2 : i > 1099511627776
  · rw [if_pos c2, t0, nok]
    simp only [conf_Check.ok, inB]
    rw [decide_eq_false (by omega : ¬ i ≤ 1099511627776)]; simp
  rw [if_neg c2, sane_tells _ (by omega)]
  simp only [Option.bind_some]
  by_cases hs : saneB [v1, v2, v3, v4, v5, v6, v7, v8, v9, v10] = true
  · obtain ⟨⟨a1, b1⟩, ⟨a2, b2⟩, ⟨a3, b3⟩, ⟨a4, b4⟩, ⟨a5, b5⟩, ⟨a6, b6⟩, ⟨a7, b7⟩, ⟨a8, b8⟩, ⟨a9, b9⟩, ⟨a10, b10⟩⟩ := saneB_at hs
    have eall : conf_All.v v1 v2 v3 v4 v5 v6 v7 v8 v9 v10 = v7 + v5 + v6 := by unfold conf_All.v; rw [if_pos hs]
    have ok_iff : conf_Check.ok i v1 v2 v3 v4 v5 v6 v7 v8 v9 v10 = true ↔ (v1 ≥ 3 ∧ v1 ≤ 16 ∧ v2 ≤ 64 ∧ v3 ≤ 4096 ∧ v4 ≤ 4096 ∧ v4 % v2 = 0 ∧ v7 ≥ 3 ∧ v7 + v5 + v6 ≤ 64 ∧ v8 ≤ v9 ∧ v9 ≤ v5 ∧ v9 + v6 + v7 ≤ v10 ∧ v10 ≤ 64) := by
      simp only [conf_Check.ok, inB, eall, Bool.and_eq_true, decide_eq_true_eq, beq_iff_eq]
      constructor
      · rintro ⟨_, _, _, _, _, h, _⟩
        refine ⟨by omega, by omega, by omega, by omega, by omega, h, by omega, by omega, by omega, by omega, by omega, by omega⟩
      · rintro ⟨_, _, _, _, _, h, _⟩
        refine ⟨⟨by omega, by omega⟩, ⟨by omega, by omega⟩, ⟨by omega, by omega⟩, ⟨by omega, by omega⟩, ⟨by omega, by omega⟩, h, ⟨by omega, by omega⟩, ⟨by omega, by omega⟩, ⟨by omega, by omega⟩, by omega, ⟨by omega, by omega⟩, ⟨by omega, by omega⟩, by omega, by omega⟩
    have no : ¬ (v1 ≥ 3 ∧ v1 ≤ 16 ∧ v2 ≤ 64 ∧ v3 ≤ 4096 ∧ v4 ≤ 4096 ∧ v4 % v2 = 0 ∧ v7 ≥ 3 ∧ v7 + v5 + v6 ≤ 64 ∧ v8 ≤ v9 ∧ v9 ≤ v5 ∧ v9 + v6 + v7 ≤ v10 ∧ v10 ≤ 64) → some (1 : Int) = some (conf_Check.v i v1 v2 v3 v4 v5 v6 v7 v8 v9 v10) := fun h => (nok (by
      cases hh : conf_Check.ok i v1 v2 v3 v4 v5 v6 v7 v8 v9 v10 with
      | false => rfl
      | true => exact absurd (ok_iff.1 hh) h)).symm
    rw [hs]
    simp only [Bool.not_true]
    have s0 : revetmentref07_Check.j0 (k + 4) false i v1 v2 v3 v4 v5 v6 v7 v8 v9 v10 = some (conf_Check.v i v1 v2 v3 v4 v5 v6 v7 v8 v9 v10) := by
      simp only [revetmentref07_Check.j0]
      rw [if_neg (by simp)]
      by_cases d1 : v1 < 3
      · rw [if_pos d1, t1]; exact no (by omega)
      rw [if_neg d1]
      by_cases d2 : v1 > 16
      · rw [if_pos d2, t1]; exact no (by omega)
      rw [if_neg d2]
      by_cases d3 : v2 > 64
      · rw [if_pos d3, t1]; exact no (by omega)
      rw [if_neg d3]
      by_cases d4 : v3 > 4096
      · rw [if_pos d4, t1]; exact no (by omega)
      rw [if_neg d4]
      by_cases d5 : v4 > 4096
      · rw [if_pos d5, t1]; exact no (by omega)
      rw [if_neg d5, if_neg (by omega), Int.tmod_eq_emod_of_nonneg (by omega)]
      have hm := Int.emod_nonneg v4 (by omega : v2 ≠ 0)
      generalize v4 % v2 = m at *
      by_cases d6 : m > 0
      · rw [decide_eq_true d6, t1]; exact no (by omega)
      rw [decide_eq_false d6]
      simp only [revetmentref07_Check.j1]
      rw [if_neg (by simp)]
      have x1 : wrap64 (v7 + v5) = v7 + v5 := wrap64_id (by omega) (by omega)
      have x2 : wrap64 (v7 + v5 + v6) = v7 + v5 + v6 := wrap64_id (by omega) (by omega)
      have x3 : wrap64 (v9 + v6) = v9 + v6 := wrap64_id (by omega) (by omega)
      have x4 : wrap64 (v9 + v6 + v7) = v9 + v6 + v7 := wrap64_id (by omega) (by omega)
      rw [x1, x2]
      by_cases d7 : v7 < 3
      · rw [if_pos d7, t2]; exact no (by omega)
      rw [if_neg d7]
      by_cases d8 : v7 + v5 + v6 > 64
      · rw [if_pos d8, t2]; exact no (by omega)
      rw [if_neg d8]
      by_cases d9 : v8 > v9
      · rw [if_pos d9, t2]; exact no (by omega)
      rw [if_neg d9]
      by_cases da : v9 > v5
      · rw [decide_eq_true da, t2]; exact no (by omega)
      rw [decide_eq_false da]
      simp only [revetmentref07_Check.j2]
      rw [if_neg (by simp), x3, x4]
      by_cases db : v10 < v9 + v6 + v7
      · rw [if_pos db, t3]; exact no (by omega)
      rw [if_neg db]
      by_cases dc : v10 > 64
      · rw [decide_eq_true dc, t3]; exact no (by omega)
      rw [decide_eq_false dc]
      simp only [revetmentref07_Check.j3]
      rw [if_neg (by simp), numbers_tells _ (by omega)]
      simp only [Option.bind_some]
      unfold conf_Check.v
      rw [ok_iff.2 (by omega), if_pos rfl]
      by_cases de : conf_Room.v v1 v2 v3 v4 v5 v6 v7 v8 v9 v10 > v4
      · rw [if_pos de, if_pos de]
      · rw [if_neg de, if_neg de]
    exact s0
  · have hs' : saneB [v1, v2, v3, v4, v5, v6, v7, v8, v9, v10] = false := by simpa using hs
    rw [hs']
    simp only [Bool.not_false]
    rw [t0, nok]
    cases hh : conf_Check.ok i v1 v2 v3 v4 v5 v6 v7 v8 v9 v10 with
    | false => rfl
    | true =>
      exfalso
      apply hs
      have eall : conf_All.v v1 v2 v3 v4 v5 v6 v7 v8 v9 v10 = 0 := by unfold conf_All.v; rw [if_neg hs]
      simp only [conf_Check.ok, inB, eall, Bool.and_eq_true, decide_eq_true_eq, beq_iff_eq] at hh
      obtain ⟨_, _, _, _, _, _, h⟩ := hh
      simp only [saneB, okN, List.all_cons, List.all_nil, Bool.and_eq_true, decide_eq_true_eq, Bool.and_true]
      refine ⟨⟨by omega, by omega⟩, ⟨by omega, by omega⟩, ⟨by omega, by omega⟩, ⟨by omega, by omega⟩, ⟨by omega, by omega⟩, ⟨by omega, by omega⟩, ⟨by omega, by omega⟩, ⟨by omega, by omega⟩, ⟨by omega, by omega⟩, by omega, by omega⟩
end Go.Proofs.Ythpggaglmdnncaa.ConfLib
