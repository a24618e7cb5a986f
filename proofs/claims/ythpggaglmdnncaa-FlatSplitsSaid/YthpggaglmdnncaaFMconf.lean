-- Written by wip/tools/mine.py (a program of this session, over the kit's print and texts of its own).
import Derived.ArgAppend
import Derived.Below
import Derived.BigQuiet
import Derived.Deep.AppendLies
import Derived.Deep.CutBlock
import Derived.Deep.DeepCutAuto
import Derived.Deep.Draws
import Derived.Deep.LoopGhost
import Derived.Deep.OwnRows
import Derived.Deep.QuietTactic
import Derived.Deep.RegionHeld3
import Derived.KernelRfl
import Derived.Laws.BitsLemmas
import Derived.Laws.BytesArg
import Derived.Laws.IdiomCopy
import Derived.Laws.MakeOwn
import Derived.Laws.OwnMore
import Derived.Laws.Rows
import Derived.Laws.Slices
import Derived.Lib.AppendStr
import Derived.Lib.ConvBytes
import Derived.Maps.AppendAt
import Derived.OrdersHeld
import Derived.OwnWalk
import Derived.RowKit
import Derived.RowKit3
import Derived.Tactics
import Derived.Test.YthpggaglmdnncaaFMyWords
import Derived.Test.YthpggaglmdnncaaProg
import Derived.Test.YthpggaglmdnncaaFWApart
import Derived.Test.YthpggaglmdnncaaFWArr
import Derived.Test.YthpggaglmdnncaaFWAt
import Derived.Test.YthpggaglmdnncaaFWEqStruct
import Derived.Test.YthpggaglmdnncaaFWFoot
import Derived.Test.YthpggaglmdnncaaFWFootNe
import Derived.Test.YthpggaglmdnncaaFWFour
import Derived.Test.YthpggaglmdnncaaFWGuard
import Derived.Test.YthpggaglmdnncaaFWInv
import Derived.Test.YthpggaglmdnncaaFWInvWords
import Derived.Test.YthpggaglmdnncaaFWKept
import Derived.Test.YthpggaglmdnncaaFWLast
import Derived.Test.YthpggaglmdnncaaFWMore
import Derived.Test.YthpggaglmdnncaaFWN
import Derived.Test.YthpggaglmdnncaaFWNEv
import Derived.Test.YthpggaglmdnncaaFWQPut
import Derived.Test.YthpggaglmdnncaaFWRepsOne
import Derived.Test.YthpggaglmdnncaaFWShare
import Derived.Test.YthpggaglmdnncaaFWTab
import Derived.Test.YthpggaglmdnncaaFWWords
import Derived.Test.YthpggaglmdnncaaFWZeros
import Derived.WalkKit
import Derived.WideLaws
import Derived.Test.YthpggaglmdnncaaFM0
namespace Go.Proofs.Ythpggaglmdnncaa.M
open Go.RowKit Go.Proofs.YthpggaglmdnncaaW.PrintWords Go.Proofs.YthpggaglmdnncaaW.PrintLast Go.Proofs.YthpggaglmdnncaaW.PrintMore Go.Proofs.YthpggaglmdnncaaW.MyWords
attribute [local go_sem] max2_int min2_int max_two min_two max_three min_three max_four min_four -- for this text's walks alone
set_option linter.unusedVariables false
set_option linter.unusedSimpArgs false

set_option maxHeartbeats 800000 in
set_option maxRecDepth 100000 in
theorem conf_sane_any (A : Addr) (b off cap : Nat) (vs : List Int) (w : World) (hp : ∀ i, i < vs.length → w.cell? (A.add i) = some (.pointer (some ⟨b, off + i, none⟩))) (hv : ∀ i, i < vs.length → w.cell? ⟨b, off + i, none⟩ = some (.int .i64 (vs.getD i 0))) (hl : vs.length ≤ 100) :
    Calls Try.prog 163 #[.slice (some A) vs.length cap] w fun e w' => e = .returned (.bool (saneB vs)) ∧ w = w' := by
  have HP := Aside0.mk hp
  have HV := Aside0.mk hv
  clear hp hv
  go_enter Try.func163, Try.ntmps163
  go_wp2
  go_loop [7] (fun v => ∃ k : Nat, k ≤ vs.length ∧ v = .int .i64 k ∧ Aside0 (saneB (vs.take k) = true)) (fun v => vs.length - (intOf v).toNat)
  case atStart => exact ⟨0, Nat.zero_le _, rfl, ⟨rfl⟩⟩
  case round =>
    obtain ⟨k, hk, rfl, HS⟩ := hrel
    by_cases hlt : k < vs.length
    · have h1 := HP.out k hlt
      have h2 := HV.out k hlt
      generalize hx : vs.getD k 0 = x at h2
      have HX := Aside0.mk hx
      clear hx
      by_cases c1 : x < 1
      · have HF : Aside0 (saneB vs = false) := ⟨saneB_stop hlt (by rw [HX.out]; simp [okN]; omega)⟩
        go_wp2
        go_ret
        exact ⟨by rw [HF.out]; rfl, rfl⟩
      · by_cases c2 : 1048576 < x
        · have HF : Aside0 (saneB vs = false) := ⟨saneB_stop hlt (by rw [HX.out]; simp [okN]; omega)⟩
          go_wp2
          go_ret
          exact ⟨by rw [HF.out]; rfl, rfl⟩
        · have HN : Aside0 (saneB (vs.take (k + 1)) = true) := ⟨saneB_step hlt (by rw [HX.out]; simp [okN]; omega) HS.out⟩
          go_wp2
          go_round
          case rel => exact ⟨k + 1, by omega, by go_num, HN⟩
          case measure => simp [intOf]; omega
    · have HF : Aside0 (saneB vs = true) := ⟨by have := HS.out; rwa [List.take_of_length_le (by omega)] at this⟩
      go_wp2
      go_ret
      exact ⟨by rw [HF.out]; rfl, rfl⟩

def ptrs (b : Nat) : Array Value := #[.pointer (some ⟨b, 1, none⟩), .pointer (some ⟨b, 2, none⟩), .pointer (some ⟨b, 3, none⟩), .pointer (some ⟨b, 4, none⟩), .pointer (some ⟨b, 5, none⟩), .pointer (some ⟨b, 6, none⟩), .pointer (some ⟨b, 7, none⟩), .pointer (some ⟨b, 8, none⟩), .pointer (some ⟨b, 9, none⟩), .pointer (some ⟨b, 10, none⟩)]
set_option maxHeartbeats 800000 in
set_option maxRecDepth 100000 in
theorem conf_numbers_any (b : Nat) (w : World) :
    Calls Try.prog 158 #[.pointer (some ⟨b, 0, none⟩)] w fun e w' => ∃ n, e = .returned (.slice (some ⟨w.heap.size, 0, none⟩) 10 10) ∧ w' = (w.alloc (.cells #[.pointer (some ⟨b, 1, none⟩), .pointer (some ⟨b, 2, none⟩), .pointer (some ⟨b, 3, none⟩), .pointer (some ⟨b, 4, none⟩), .pointer (some ⟨b, 5, none⟩), .pointer (some ⟨b, 6, none⟩), .pointer (some ⟨b, 7, none⟩), .pointer (some ⟨b, 8, none⟩), .pointer (some ⟨b, 9, none⟩), .pointer (some ⟨b, 10, none⟩)] 172)).drewN n := by
  have hu := Try.underlying68
  go_enter Try.func158, Try.ntmps158
  go_wp2
  go_still_tail 30, (by kernel_rfl)
  go_wp2
  go_ret
  exact ⟨_, rfl, rfl⟩
theorem conf_sane10 (w : World) (p b : Nat) (i v1 v2 v3 v4 v5 v6 v7 v8 v9 v10 : Int) (fr fr' : Nat × Nat) (hp : w.heap[p]? = some (.cells (ptrs b) 172 fr)) (hb : w.heap[b]? = some (.cells #[.int .i64 i, .int .i64 v1, .int .i64 v2, .int .i64 v3, .int .i64 v4, .int .i64 v5, .int .i64 v6, .int .i64 v7, .int .i64 v8, .int .i64 v9, .int .i64 v10] 68 fr')) :
    Calls Try.prog 163 #[.slice (some ⟨p, 0, none⟩) 10 10] w fun e w' => e = .returned (.bool (saneB [v1, v2, v3, v4, v5, v6, v7, v8, v9, v10])) ∧ w = w' := by
  refine conf_sane_any ⟨p, 0, none⟩ b 1 10 [v1, v2, v3, v4, v5, v6, v7, v8, v9, v10] w (fun j hj => ?_) (fun j hj => ?_) (by simp)
  · have : (⟨p, 0, none⟩ : Addr).add j = ⟨p, j, none⟩ := by unfold Addr.add; split <;> simp_all
    rw [this, cell_of_row w p j (ptrs b) 172 fr hp]
    simp only [List.length_cons, List.length_nil] at hj
    match j, hj with
    | 0, _ => rfl
    | 1, _ => rfl
    | 2, _ => rfl
    | 3, _ => rfl
    | 4, _ => rfl
    | 5, _ => rfl
    | 6, _ => rfl
    | 7, _ => rfl
    | 8, _ => rfl
    | 9, _ => rfl
  · rw [cell_of_row w b (1 + j) _ 68 fr' hb]
    simp only [List.length_cons, List.length_nil] at hj
    match j, hj with
    | 0, _ => rfl
    | 1, _ => rfl
    | 2, _ => rfl
    | 3, _ => rfl
    | 4, _ => rfl
    | 5, _ => rfl
    | 6, _ => rfl
    | 7, _ => rfl
    | 8, _ => rfl
    | 9, _ => rfl
theorem heap3_top (w : World) (a b c : Obj) (n : Nat) : ((((w.alloc a).alloc b).alloc c).drewN n).heap[w.heap.size + 1 + 1]? = some c := by
  show ((w.heap.push a).push b |>.push c)[w.heap.size + 1 + 1]? = some c
  simp [Array.getElem_push]
theorem heap3_mid (w : World) (a b c : Obj) (n : Nat) : ((((w.alloc a).alloc b).alloc c).drewN n).heap[w.heap.size + 1]? = some b := by
  show ((w.heap.push a).push b |>.push c)[w.heap.size + 1]? = some b
  simp [Array.getElem_push]
theorem below3 (w : World) (a b c : Obj) (n : Nat) : Below w.heap.size w ((((w.alloc a).alloc b).alloc c).drewN n) :=
  pw_below_drewN ((((Below.refl _ _).alloc (Nat.le_refl _) _).alloc (by simp) _).alloc (by simp; omega) _) n

-- entered in place

theorem div_wrap (v4 v2 : Int) (a : 1 ≤ v4) (b : v4 ≤ 1048576) (c : 1 ≤ v2) : wrap64 (v4.tdiv v2) = v4 / v2 := by
  rw [Int.tdiv_eq_ediv_of_nonneg (by omega)]
  have h1 : v4 / v2 ≤ v4 := Int.ediv_le_self _ (by omega)
  have h2 : 0 ≤ v4 / v2 := Int.ediv_nonneg (by omega) (by omega)
  unfold wrap64
  omega
set_option maxHeartbeats 800000 in
set_option maxRecDepth 100000 in
theorem conf_Stripes_yes (i v1 v2 v3 v4 v5 v6 v7 v8 v9 v10 : Int) (w : World) (h : Aside0 (saneB [v1, v2, v3, v4, v5, v6, v7, v8, v9, v10] = true)) :
    Calls Try.prog 139 #[.agg #[.int .i64 i, .int .i64 v1, .int .i64 v2, .int .i64 v3, .int .i64 v4, .int .i64 v5, .int .i64 v6, .int .i64 v7, .int .i64 v8, .int .i64 v9, .int .i64 v10]] w fun e w' => e = .returned (.int .i64 (v4 / v2)) ∧ Below w.heap.size w w' := by
  have hu := Try.underlying68
  obtain ⟨⟨_, _⟩, ⟨_, _⟩, ⟨_, _⟩, ⟨_, _⟩, ⟨_, _⟩, ⟨_, _⟩, ⟨_, _⟩, ⟨_, _⟩, ⟨_, _⟩, ⟨_, _⟩⟩ := saneB_at h.out
  go_enter Try.func139, Try.ntmps139
  go_wp2_with (first | (go_at_call 158; refine (conf_numbers_any _ _).mono ?_; rintro e w1 ⟨n, rfl, rfl⟩) | (go_at_call 152; go_in))
  refine (conf_sane10 _ (w.heap.size + 1 + 1) (w.heap.size + 1) i v1 v2 v3 v4 v5 v6 v7 v8 v9 v10 (0, 0) (0, 0) (heap3_top w _ _ _ _) (heap3_mid w _ _ _ _)).mono ?_
  rintro e w1 ⟨rfl, rfl⟩
  rw [h.out]
  go_wp2
  go_ret
  exact ⟨rfl, below3 _ _ _ _ _⟩
set_option maxHeartbeats 800000 in
set_option maxRecDepth 100000 in
theorem conf_Stripes_no (i v1 v2 v3 v4 v5 v6 v7 v8 v9 v10 : Int) (w : World) (h : Aside0 (saneB [v1, v2, v3, v4, v5, v6, v7, v8, v9, v10] = false)) :
    Calls Try.prog 139 #[.agg #[.int .i64 i, .int .i64 v1, .int .i64 v2, .int .i64 v3, .int .i64 v4, .int .i64 v5, .int .i64 v6, .int .i64 v7, .int .i64 v8, .int .i64 v9, .int .i64 v10]] w fun e w' => e = .returned (.int .i64 0) ∧ Below w.heap.size w w' := by
  have hu := Try.underlying68
  go_enter Try.func139, Try.ntmps139
  go_wp2_with (first | (go_at_call 158; refine (conf_numbers_any _ _).mono ?_; rintro e w1 ⟨n, rfl, rfl⟩) | (go_at_call 152; go_in))
  refine (conf_sane10 _ (w.heap.size + 1 + 1) (w.heap.size + 1) i v1 v2 v3 v4 v5 v6 v7 v8 v9 v10 (0, 0) (0, 0) (heap3_top w _ _ _ _) (heap3_mid w _ _ _ _)).mono ?_
  rintro e w1 ⟨rfl, rfl⟩
  rw [h.out]
  go_wp2
  go_ret
  exact ⟨rfl, below3 _ _ _ _ _⟩
def conf_Stripes.v (v1 v2 v3 v4 v5 v6 v7 v8 v9 v10 : Int) : Int := if saneB [v1, v2, v3, v4, v5, v6, v7, v8, v9, v10] = true then v4 / v2 else 0
def conf_Stripes.f (a0_0 : Int) (a0_1 : Int) (a0_2 : Int) (a0_3 : Int) (a0_4 : Int) (a0_5 : Int) (a0_6 : Int) (a0_7 : Int) (a0_8 : Int) (a0_9 : Int) (a0_10 : Int) : Option Int := some (conf_Stripes.v a0_1 a0_2 a0_3 a0_4 a0_5 a0_6 a0_7 a0_8 a0_9 a0_10)
theorem conf_Stripes.calls (a0_0 : Int) (a0_1 : Int) (a0_2 : Int) (a0_3 : Int) (a0_4 : Int) (a0_5 : Int) (a0_6 : Int) (a0_7 : Int) (a0_8 : Int) (a0_9 : Int) (a0_10 : Int) (r : Int) (w : World) (h : conf_Stripes.f a0_0 a0_1 a0_2 a0_3 a0_4 a0_5 a0_6 a0_7 a0_8 a0_9 a0_10 = some r) :
    Calls Try.prog 139 #[.agg #[.int .i64 a0_0, .int .i64 a0_1, .int .i64 a0_2, .int .i64 a0_3, .int .i64 a0_4, .int .i64 a0_5, .int .i64 a0_6, .int .i64 a0_7, .int .i64 a0_8, .int .i64 a0_9, .int .i64 a0_10]] w fun e w' => e = .returned (.int .i64 r) ∧ Below w.heap.size w w' := by
  obtain rfl := Option.some.inj h
  cases hs : saneB [a0_1, a0_2, a0_3, a0_4, a0_5, a0_6, a0_7, a0_8, a0_9, a0_10] with
  | true => unfold conf_Stripes.v; rw [if_pos hs]; exact conf_Stripes_yes a0_0 a0_1 a0_2 a0_3 a0_4 a0_5 a0_6 a0_7 a0_8 a0_9 a0_10 w ⟨hs⟩
  | false => unfold conf_Stripes.v; rw [if_neg (by rw [hs]; decide)]; exact conf_Stripes_no a0_0 a0_1 a0_2 a0_3 a0_4 a0_5 a0_6 a0_7 a0_8 a0_9 a0_10 w ⟨hs⟩

theorem row_wrap (v1 v2 : Int) (a : 1 ≤ v1) (b : v1 ≤ 1048576) (c : 1 ≤ v2) (d : v2 ≤ 1048576) : wrap64 ((v1 - 1) * v2) = (v1 - 1) * v2 := by
  have h1 : (v1 - 1) * v2 ≤ 1048576 * 1048576 := Int.mul_le_mul (by omega) d (by omega) (by omega)
  have h2 : 0 ≤ (v1 - 1) * v2 := Int.mul_nonneg (by omega) (by omega)
  unfold wrap64
  omega
set_option maxHeartbeats 800000 in
set_option maxRecDepth 100000 in
theorem conf_Row_yes (i v1 v2 v3 v4 v5 v6 v7 v8 v9 v10 : Int) (w : World) (h : Aside0 (saneB [v1, v2, v3, v4, v5, v6, v7, v8, v9, v10] = true)) :
    Calls Try.prog 140 #[.agg #[.int .i64 i, .int .i64 v1, .int .i64 v2, .int .i64 v3, .int .i64 v4, .int .i64 v5, .int .i64 v6, .int .i64 v7, .int .i64 v8, .int .i64 v9, .int .i64 v10]] w fun e w' => e = .returned (.int .i64 ((v1 - 1) * v2)) ∧ Below w.heap.size w w' := by
  have hu := Try.underlying68
  obtain ⟨⟨_, _⟩, ⟨_, _⟩, ⟨_, _⟩, ⟨_, _⟩, ⟨_, _⟩, ⟨_, _⟩, ⟨_, _⟩, ⟨_, _⟩, ⟨_, _⟩, ⟨_, _⟩⟩ := saneB_at h.out
  go_enter Try.func140, Try.ntmps140
  go_wp2_with (first | (go_at_call 158; refine (conf_numbers_any _ _).mono ?_; rintro e w1 ⟨n, rfl, rfl⟩) | (go_at_call 152; go_in))
  refine (conf_sane10 _ (w.heap.size + 1 + 1) (w.heap.size + 1) i v1 v2 v3 v4 v5 v6 v7 v8 v9 v10 (0, 0) (0, 0) (heap3_top w _ _ _ _) (heap3_mid w _ _ _ _)).mono ?_
  rintro e w1 ⟨rfl, rfl⟩
  rw [h.out]
  go_wp2
  go_ret
  exact ⟨my_ret_int (row_wrap v1 v2 (by omega) (by omega) (by omega) (by omega)), below3 _ _ _ _ _⟩
set_option maxHeartbeats 800000 in
set_option maxRecDepth 100000 in
theorem conf_Row_no (i v1 v2 v3 v4 v5 v6 v7 v8 v9 v10 : Int) (w : World) (h : Aside0 (saneB [v1, v2, v3, v4, v5, v6, v7, v8, v9, v10] = false)) :
    Calls Try.prog 140 #[.agg #[.int .i64 i, .int .i64 v1, .int .i64 v2, .int .i64 v3, .int .i64 v4, .int .i64 v5, .int .i64 v6, .int .i64 v7, .int .i64 v8, .int .i64 v9, .int .i64 v10]] w fun e w' => e = .returned (.int .i64 0) ∧ Below w.heap.size w w' := by
  have hu := Try.underlying68
  go_enter Try.func140, Try.ntmps140
  go_wp2_with (first | (go_at_call 158; refine (conf_numbers_any _ _).mono ?_; rintro e w1 ⟨n, rfl, rfl⟩) | (go_at_call 152; go_in))
  refine (conf_sane10 _ (w.heap.size + 1 + 1) (w.heap.size + 1) i v1 v2 v3 v4 v5 v6 v7 v8 v9 v10 (0, 0) (0, 0) (heap3_top w _ _ _ _) (heap3_mid w _ _ _ _)).mono ?_
  rintro e w1 ⟨rfl, rfl⟩
  rw [h.out]
  go_wp2
  go_ret
  exact ⟨rfl, below3 _ _ _ _ _⟩
def conf_Row.v (v1 v2 v3 v4 v5 v6 v7 v8 v9 v10 : Int) : Int := if saneB [v1, v2, v3, v4, v5, v6, v7, v8, v9, v10] = true then (v1 - 1) * v2 else 0
def conf_Row.f (a0_0 : Int) (a0_1 : Int) (a0_2 : Int) (a0_3 : Int) (a0_4 : Int) (a0_5 : Int) (a0_6 : Int) (a0_7 : Int) (a0_8 : Int) (a0_9 : Int) (a0_10 : Int) : Option Int := some (conf_Row.v a0_1 a0_2 a0_3 a0_4 a0_5 a0_6 a0_7 a0_8 a0_9 a0_10)
theorem conf_Row.calls (a0_0 : Int) (a0_1 : Int) (a0_2 : Int) (a0_3 : Int) (a0_4 : Int) (a0_5 : Int) (a0_6 : Int) (a0_7 : Int) (a0_8 : Int) (a0_9 : Int) (a0_10 : Int) (r : Int) (w : World) (h : conf_Row.f a0_0 a0_1 a0_2 a0_3 a0_4 a0_5 a0_6 a0_7 a0_8 a0_9 a0_10 = some r) :
    Calls Try.prog 140 #[.agg #[.int .i64 a0_0, .int .i64 a0_1, .int .i64 a0_2, .int .i64 a0_3, .int .i64 a0_4, .int .i64 a0_5, .int .i64 a0_6, .int .i64 a0_7, .int .i64 a0_8, .int .i64 a0_9, .int .i64 a0_10]] w fun e w' => e = .returned (.int .i64 r) ∧ Below w.heap.size w w' := by
  obtain rfl := Option.some.inj h
  cases hs : saneB [a0_1, a0_2, a0_3, a0_4, a0_5, a0_6, a0_7, a0_8, a0_9, a0_10] with
  | true => unfold conf_Row.v; rw [if_pos hs]; exact conf_Row_yes a0_0 a0_1 a0_2 a0_3 a0_4 a0_5 a0_6 a0_7 a0_8 a0_9 a0_10 w ⟨hs⟩
  | false => unfold conf_Row.v; rw [if_neg (by rw [hs]; decide)]; exact conf_Row_no a0_0 a0_1 a0_2 a0_3 a0_4 a0_5 a0_6 a0_7 a0_8 a0_9 a0_10 w ⟨hs⟩

def conf_Size.f (a0_0 : Int) (a0_1 : Int) (a0_2 : Int) (a0_3 : Int) (a0_4 : Int) (a0_5 : Int) (a0_6 : Int) (a0_7 : Int) (a0_8 : Int) (a0_9 : Int) (a0_10 : Int) : Option (Int) := (conf_Stripes.f a0_0 a0_1 a0_2 a0_3 a0_4 a0_5 a0_6 a0_7 a0_8 a0_9 a0_10).bind fun t102 => ((conf_Row.f a0_0 a0_1 a0_2 a0_3 a0_4 a0_5 a0_6 a0_7 a0_8 a0_9 a0_10).bind fun t103 => (some (wrap64 (t102 * t103))))
set_option maxHeartbeats 8000000 in
set_option maxRecDepth 100000 in
theorem conf_Size.calls (a0_0 : Int) (a0_1 : Int) (a0_2 : Int) (a0_3 : Int) (a0_4 : Int) (a0_5 : Int) (a0_6 : Int) (a0_7 : Int) (a0_8 : Int) (a0_9 : Int) (a0_10 : Int) (r : Int) (w : World) (h : conf_Size.f a0_0 a0_1 a0_2 a0_3 a0_4 a0_5 a0_6 a0_7 a0_8 a0_9 a0_10 = some r) :
    Calls Try.prog 104 #[.agg #[.int .i64 a0_0, .int .i64 a0_1, .int .i64 a0_2, .int .i64 a0_3, .int .i64 a0_4, .int .i64 a0_5, .int .i64 a0_6, .int .i64 a0_7, .int .i64 a0_8, .int .i64 a0_9, .int .i64 a0_10]] w fun e w' => e = .returned (.int .i64 r) ∧ Below w.heap.size w w' := by
  have hu68 := Try.underlying68
  have HB := Aside0.mk (Below.refl w.heap.size w)
  have H : ((conf_Stripes.f a0_0 a0_1 a0_2 a0_3 a0_4 a0_5 a0_6 a0_7 a0_8 a0_9 a0_10).bind fun t102 => ((conf_Row.f a0_0 a0_1 a0_2 a0_3 a0_4 a0_5 a0_6 a0_7 a0_8 a0_9 a0_10).bind fun t103 => (some (wrap64 (t102 * t103))))) = some r := h
  clear h
  replace H := Option.bind_eq_some_iff.mp H
  obtain ⟨t102, A20, H⟩ := H
  replace H : ((conf_Row.f a0_0 a0_1 a0_2 a0_3 a0_4 a0_5 a0_6 a0_7 a0_8 a0_9 a0_10).bind fun t103 => (some (wrap64 (t102 * t103)))) = some r := H
  have A2 := Aside0.mk A20
  clear A20
  replace H := Option.bind_eq_some_iff.mp H
  obtain ⟨t103, A30, H⟩ := H
  replace H : (some (wrap64 (t102 * t103))) = some r := H
  have A3 := Aside0.mk A30
  clear A30
  obtain rfl := Option.some.inj H
  go_enter Try.func104, Try.ntmps104
  try go_wp2_with (first | ((with_reducible refine gate_dst (N := 1) rfl ?_); refine box_event ?hg (N := 1) ?hd (cs := #[.int .i64 a0_0, .int .i64 a0_1, .int .i64 a0_2, .int .i64 a0_3, .int .i64 a0_4, .int .i64 a0_5, .int .i64 a0_6, .int .i64 a0_7, .int .i64 a0_8, .int .i64 a0_9, .int .i64 a0_10]) (t := 68) ?hr ?_; (case hd => rfl); (case hg => rfl); (case hr => first | (go_simp; done) | (go_simp; rfl)); intro gb101 hg w4 hbox hb; have n0_ := Aside0.mk (below_step (by repeat (first | (with_reducible first | exact HB.out | apply below_alloc | apply pw_below_drewN | apply below_drew1) | exact HB.out)) hb); have n1_ := Aside0.mk (hbox); have n2_ := Aside0.mk ((by rw [hg]; exact (below_size (by repeat (first | (with_reducible first | exact HB.out | apply below_alloc | apply pw_below_drewN | apply below_drew1) | exact HB.out))) : w.heap.size ≤ gb101)); have n3_ := Aside0.mk ((by rw [hg]; exact (below_size (by repeat (first | (with_reducible first | exact HB.out | apply below_alloc | apply pw_below_drewN | apply below_drew1) | exact HB.out))) : w.heap.size ≤ gb101)); clear HB; have HB := n0_; have BK101 := n1_; have GW101 := n2_; have GE101 := n3_; clear n0_ n1_ n2_ n3_; clear hb hbox hg))
  have n0_ := Aside0.mk (blk_drew BK101.out)
  have n1_ := Aside0.mk (below_drew1 HB.out)
  clear BK101
  clear HB
  have BK101 := n0_
  have HB := n1_
  clear n0_ n1_
  refine start_ (n := 6) (S := fun w' => w'.cell? ⟨gb101, 0, none⟩ = some (.int .i64 a0_0) ∧ w'.cell? ⟨gb101, 1, none⟩ = some (.int .i64 a0_1) ∧ w'.cell? ⟨gb101, 2, none⟩ = some (.int .i64 a0_2) ∧ w'.cell? ⟨gb101, 3, none⟩ = some (.int .i64 a0_3) ∧ w'.cell? ⟨gb101, 4, none⟩ = some (.int .i64 a0_4) ∧ w'.cell? ⟨gb101, 5, none⟩ = some (.int .i64 a0_5) ∧ w'.cell? ⟨gb101, 6, none⟩ = some (.int .i64 a0_6) ∧ w'.cell? ⟨gb101, 7, none⟩ = some (.int .i64 a0_7) ∧ w'.cell? ⟨gb101, 8, none⟩ = some (.int .i64 a0_8) ∧ w'.cell? ⟨gb101, 9, none⟩ = some (.int .i64 a0_9) ∧ w'.cell? ⟨gb101, 10, none⟩ = some (.int .i64 a0_10)) (ds := []) #[false, false, false, false, false, false] (by kernel_rfl) rfl rfl ⟨(blk_cell BK101.out 0).trans rfl, (blk_cell BK101.out 1).trans rfl, (blk_cell BK101.out 2).trans rfl, (blk_cell BK101.out 3).trans rfl, (blk_cell BK101.out 4).trans rfl, (blk_cell BK101.out 5).trans rfl, (blk_cell BK101.out 6).trans rfl, (blk_cell BK101.out 7).trans rfl, (blk_cell BK101.out 8).trans rfl, (blk_cell BK101.out 9).trans rfl, (blk_cell BK101.out 10).trans rfl⟩ (fun hHeld => ?_)
  generalize w4.drew = w5 at BK101 HB hHeld ⊢
  refine take_ (i := 0) (N := some 3) (v := ?_) (a' := ?_) #[true, false, false, false, false, false] rfl rfl (by kernel_rfl) (fun _ _ _ h => h) (Or.inl ⟨by rfl, ?_⟩) hHeld ?_ ?_
  rotate_left
  · rintro w' ⟨s0, s1, s2, s3, s4, s5, s6, s7, s8, s9, s10⟩
    go_simp
    with_reducible rfl
  rotate_left
  · simp only [Act.put, List.setIfInBounds_toArray, List.set_cons_zero, List.set_cons_succ, i64_w, i32_w]
    rfl
  refine take_ (i := 2) (N := some 5) (v := ?_) (a' := ?_) #[true, false, true, false, false, false] rfl rfl (by kernel_rfl) (fun _ _ _ h => h) (Or.inl ⟨by rfl, ?_⟩) hHeld ?_ ?_
  rotate_left
  · rintro w' ⟨s0, s1, s2, s3, s4, s5, s6, s7, s8, s9, s10⟩
    go_simp
    with_reducible rfl
  rotate_left
  · simp only [Act.put, List.setIfInBounds_toArray, List.set_cons_zero, List.set_cons_succ, i64_w, i32_w]
    rfl
  refine one_ (i := 1) (N := some 4) #[true, true, true, false, false, false] rfl rfl (by kernel_rfl) (by decide) (fun K hK => ?_)
  refine goes_ Try.func139 (by kernel_rfl) rfl #[.agg #[.int .i64 a0_0, .int .i64 a0_1, .int .i64 a0_2, .int .i64 a0_3, .int .i64 a0_4, .int .i64 a0_5, .int .i64 a0_6, .int .i64 a0_7, .int .i64 a0_8, .int .i64 a0_9, .int .i64 a0_10]] (by rfl) rfl rfl (by (try simp only [List.map_toArray, List.map_cons, List.map_nil]); first | done | rfl | (simp only [List.length_drop, List.length_take]; rfl)) ?_
  with_reducible refine (conf_Stripes.calls a0_0 a0_1 a0_2 a0_3 a0_4 a0_5 a0_6 a0_7 a0_8 a0_9 a0_10 t102 _ A2.out).mono ?_
  rintro e w6 ⟨rfl, hb⟩
  refine ⟨_, rfl, ?_⟩
  have n0_ := Aside0.mk (blk_below (g := gb101) (o := .cells #[.int .i64 a0_0, .int .i64 a0_1, .int .i64 a0_2, .int .i64 a0_3, .int .i64 a0_4, .int .i64 a0_5, .int .i64 a0_6, .int .i64 a0_7, .int .i64 a0_8, .int .i64 a0_9, .int .i64 a0_10] 68 (0, 0)) (by (with_reducible repeat (first | refine blk_drewN ?_ _ | refine blk_drew ?_ | refine blk_alloc ?_ _)); exact BK101.out) hb)
  have n1_ := Aside0.mk (below_step (by repeat (first | (with_reducible first | exact HB.out | apply below_alloc | apply pw_below_drewN | apply below_drew1 | refine below_set ?_ GE101.out) | exact HB.out)) hb)
  clear BK101
  clear HB
  have BK101 := n0_
  have HB := n1_
  clear n0_ n1_
  (try clear hb)
  (try clear hb2)
  (try clear hk)
  (try clear hi)
  refine hK.out _ _ ⟨(blk_cell BK101.out 0).trans rfl, (blk_cell BK101.out 1).trans rfl, (blk_cell BK101.out 2).trans rfl, (blk_cell BK101.out 3).trans rfl, (blk_cell BK101.out 4).trans rfl, (blk_cell BK101.out 5).trans rfl, (blk_cell BK101.out 6).trans rfl, (blk_cell BK101.out 7).trans rfl, (blk_cell BK101.out 8).trans rfl, (blk_cell BK101.out 9).trans rfl, (blk_cell BK101.out 10).trans rfl⟩ (fun hHeld => ?_)
  clear hK K
  refine norm_ (a' := ?_) ?_ ?_
  rotate_left
  · show Act.put _ (some 4) _ = _
    simp only [Act.put, List.setIfInBounds_toArray, List.set_cons_zero, List.set_cons_succ, i64_w, i32_w]
    rfl
  refine one_ (i := 3) (N := some 6) #[true, true, true, true, false, false] rfl rfl (by kernel_rfl) (by decide) (fun K hK => ?_)
  refine goes_ Try.func140 (by kernel_rfl) rfl #[.agg #[.int .i64 a0_0, .int .i64 a0_1, .int .i64 a0_2, .int .i64 a0_3, .int .i64 a0_4, .int .i64 a0_5, .int .i64 a0_6, .int .i64 a0_7, .int .i64 a0_8, .int .i64 a0_9, .int .i64 a0_10]] (by rfl) rfl rfl (by (try simp only [List.map_toArray, List.map_cons, List.map_nil]); first | done | rfl | (simp only [List.length_drop, List.length_take]; rfl)) ?_
  with_reducible refine (conf_Row.calls a0_0 a0_1 a0_2 a0_3 a0_4 a0_5 a0_6 a0_7 a0_8 a0_9 a0_10 t103 _ A3.out).mono ?_
  rintro e w7 ⟨rfl, hb⟩
  refine ⟨_, rfl, ?_⟩
  have n0_ := Aside0.mk (blk_below (g := gb101) (o := .cells #[.int .i64 a0_0, .int .i64 a0_1, .int .i64 a0_2, .int .i64 a0_3, .int .i64 a0_4, .int .i64 a0_5, .int .i64 a0_6, .int .i64 a0_7, .int .i64 a0_8, .int .i64 a0_9, .int .i64 a0_10] 68 (0, 0)) (by (with_reducible repeat (first | refine blk_drewN ?_ _ | refine blk_drew ?_ | refine blk_alloc ?_ _)); exact BK101.out) hb)
  have n1_ := Aside0.mk (below_step (by repeat (first | (with_reducible first | exact HB.out | apply below_alloc | apply pw_below_drewN | apply below_drew1 | refine below_set ?_ GE101.out) | exact HB.out)) hb)
  clear BK101
  clear HB
  have BK101 := n0_
  have HB := n1_
  clear n0_ n1_
  (try clear hb)
  (try clear hb2)
  (try clear hk)
  (try clear hi)
  refine hK.out _ _ ⟨(blk_cell BK101.out 0).trans rfl, (blk_cell BK101.out 1).trans rfl, (blk_cell BK101.out 2).trans rfl, (blk_cell BK101.out 3).trans rfl, (blk_cell BK101.out 4).trans rfl, (blk_cell BK101.out 5).trans rfl, (blk_cell BK101.out 6).trans rfl, (blk_cell BK101.out 7).trans rfl, (blk_cell BK101.out 8).trans rfl, (blk_cell BK101.out 9).trans rfl, (blk_cell BK101.out 10).trans rfl⟩ (fun hHeld => ?_)
  clear hK K
  refine norm_ (a' := ?_) ?_ ?_
  rotate_left
  · show Act.put _ (some 6) _ = _
    simp only [Act.put, List.setIfInBounds_toArray, List.set_cons_zero, List.set_cons_succ, i64_w, i32_w]
    rfl
  refine pure_ (i := 4) (N := some 7) (v := ?_) (a' := ?_) #[true, true, true, true, true, false] rfl rfl (by kernel_rfl) (fun _ _ _ h => h) (Or.inl ⟨by rfl, ?_⟩) ?_ ?_
  rotate_left
  · intro w'
    go_simp
    with_reducible rfl
  rotate_left
  · simp only [Act.put, List.setIfInBounds_toArray, List.set_cons_zero, List.set_cons_succ, i64_w, i32_w]
    rfl
  refine pure_ (i := 5) (N := some 2) (v := ?_) (a' := ?_) #[true, true, true, true, true, true] rfl rfl (by kernel_rfl) (fun _ _ _ h => h) (Or.inl ⟨by rfl, ?_⟩) ?_ ?_
  rotate_left
  · intro w'
    go_simp
    with_reducible rfl
  rotate_left
  · simp only [Act.put, List.setIfInBounds_toArray, List.set_cons_zero, List.set_cons_succ, i64_w, i32_w]
    rfl
  refine done_ (by kernel_rfl) ?_
  try go_wp2
  go_ret
  exact ⟨by first | rfl | (simp [errW_none, errW_some] <;> rfl) | (simp [*, errW_none, errW_some] <;> rfl), by repeat (first | (with_reducible first | exact HB.out | apply below_alloc | apply pw_below_drewN | apply below_drew1 | refine below_set ?_ GE101.out) | exact HB.out)⟩

set_option maxHeartbeats 800000 in
set_option maxRecDepth 100000 in
theorem conf_All_yes (i v1 v2 v3 v4 v5 v6 v7 v8 v9 v10 : Int) (w : World) (h : Aside0 (saneB [v1, v2, v3, v4, v5, v6, v7, v8, v9, v10] = true)) :
    Calls Try.prog 143 #[.agg #[.int .i64 i, .int .i64 v1, .int .i64 v2, .int .i64 v3, .int .i64 v4, .int .i64 v5, .int .i64 v6, .int .i64 v7, .int .i64 v8, .int .i64 v9, .int .i64 v10]] w fun e w' => e = .returned (.int .i64 (v7 + v5 + v6)) ∧ Below w.heap.size w w' := by
  have hu := Try.underlying68
  obtain ⟨⟨_, _⟩, ⟨_, _⟩, ⟨_, _⟩, ⟨_, _⟩, ⟨_, _⟩, ⟨_, _⟩, ⟨_, _⟩, ⟨_, _⟩, ⟨_, _⟩, ⟨_, _⟩⟩ := saneB_at h.out
  go_enter Try.func143, Try.ntmps143
  go_wp2_with (first | (go_at_call 158; refine (conf_numbers_any _ _).mono ?_; rintro e w1 ⟨n, rfl, rfl⟩) | (go_at_call 152; go_in))
  refine (conf_sane10 _ (w.heap.size + 1 + 1) (w.heap.size + 1) i v1 v2 v3 v4 v5 v6 v7 v8 v9 v10 (0, 0) (0, 0) (heap3_top w _ _ _ _) (heap3_mid w _ _ _ _)).mono ?_
  rintro e w1 ⟨rfl, rfl⟩
  rw [h.out]
  go_wp2
  go_ret
  exact ⟨rfl, below3 _ _ _ _ _⟩
set_option maxHeartbeats 800000 in
set_option maxRecDepth 100000 in
theorem conf_All_no (i v1 v2 v3 v4 v5 v6 v7 v8 v9 v10 : Int) (w : World) (h : Aside0 (saneB [v1, v2, v3, v4, v5, v6, v7, v8, v9, v10] = false)) :
    Calls Try.prog 143 #[.agg #[.int .i64 i, .int .i64 v1, .int .i64 v2, .int .i64 v3, .int .i64 v4, .int .i64 v5, .int .i64 v6, .int .i64 v7, .int .i64 v8, .int .i64 v9, .int .i64 v10]] w fun e w' => e = .returned (.int .i64 0) ∧ Below w.heap.size w w' := by
  have hu := Try.underlying68
  go_enter Try.func143, Try.ntmps143
  go_wp2_with (first | (go_at_call 158; refine (conf_numbers_any _ _).mono ?_; rintro e w1 ⟨n, rfl, rfl⟩) | (go_at_call 152; go_in))
  refine (conf_sane10 _ (w.heap.size + 1 + 1) (w.heap.size + 1) i v1 v2 v3 v4 v5 v6 v7 v8 v9 v10 (0, 0) (0, 0) (heap3_top w _ _ _ _) (heap3_mid w _ _ _ _)).mono ?_
  rintro e w1 ⟨rfl, rfl⟩
  rw [h.out]
  go_wp2
  go_ret
  exact ⟨rfl, below3 _ _ _ _ _⟩
def conf_All.v (v1 v2 v3 v4 v5 v6 v7 v8 v9 v10 : Int) : Int := if saneB [v1, v2, v3, v4, v5, v6, v7, v8, v9, v10] = true then v7 + v5 + v6 else 0
def conf_All.f (a0_0 : Int) (a0_1 : Int) (a0_2 : Int) (a0_3 : Int) (a0_4 : Int) (a0_5 : Int) (a0_6 : Int) (a0_7 : Int) (a0_8 : Int) (a0_9 : Int) (a0_10 : Int) : Option Int := some (conf_All.v a0_1 a0_2 a0_3 a0_4 a0_5 a0_6 a0_7 a0_8 a0_9 a0_10)
theorem conf_All.calls (a0_0 : Int) (a0_1 : Int) (a0_2 : Int) (a0_3 : Int) (a0_4 : Int) (a0_5 : Int) (a0_6 : Int) (a0_7 : Int) (a0_8 : Int) (a0_9 : Int) (a0_10 : Int) (r : Int) (w : World) (h : conf_All.f a0_0 a0_1 a0_2 a0_3 a0_4 a0_5 a0_6 a0_7 a0_8 a0_9 a0_10 = some r) :
    Calls Try.prog 143 #[.agg #[.int .i64 a0_0, .int .i64 a0_1, .int .i64 a0_2, .int .i64 a0_3, .int .i64 a0_4, .int .i64 a0_5, .int .i64 a0_6, .int .i64 a0_7, .int .i64 a0_8, .int .i64 a0_9, .int .i64 a0_10]] w fun e w' => e = .returned (.int .i64 r) ∧ Below w.heap.size w w' := by
  obtain rfl := Option.some.inj h
  cases hs : saneB [a0_1, a0_2, a0_3, a0_4, a0_5, a0_6, a0_7, a0_8, a0_9, a0_10] with
  | true => unfold conf_All.v; rw [if_pos hs]; exact conf_All_yes a0_0 a0_1 a0_2 a0_3 a0_4 a0_5 a0_6 a0_7 a0_8 a0_9 a0_10 w ⟨hs⟩
  | false => unfold conf_All.v; rw [if_neg (by rw [hs]; decide)]; exact conf_All_no a0_0 a0_1 a0_2 a0_3 a0_4 a0_5 a0_6 a0_7 a0_8 a0_9 a0_10 w ⟨hs⟩

theorem room_wrap (v1 v2 v3 v5 : Int) (a1 : 1 ≤ v1) (b1 : v1 ≤ 1048576) (a2 : 1 ≤ v2) (b2 : v2 ≤ 1048576) (a3 : 1 ≤ v3) (b3 : v3 ≤ 1048576) (a5 : 1 ≤ v5) (b5 : v5 ≤ 1048576) :
    wrap64 (wrap64 ((wrap64 (wrap64 (wrap64 (320 + 48 * v5 + 8 * v1 + wrap64 (wrap64 ((v5 + 1) * v2) * v3)) + v3) - 1)).tdiv v3) + 2) = (320 + 48 * v5 + 8 * v1 + (v5 + 1) * v2 * v3 + v3 - 1) / v3 + 2 := by
  have h1 : (v5 + 1) * v2 ≤ 1048577 * 1048576 := Int.mul_le_mul (by omega) b2 (by omega) (by omega)
  have h2 : 0 ≤ (v5 + 1) * v2 := Int.mul_nonneg (by omega) (by omega)
  have h3 : (v5 + 1) * v2 * v3 ≤ 1048577 * 1048576 * 1048576 := Int.mul_le_mul h1 b3 (by omega) (by omega)
  have h4 : 0 ≤ (v5 + 1) * v2 * v3 := Int.mul_nonneg h2 (by omega)
  have e1 : wrap64 ((v5 + 1) * v2) = (v5 + 1) * v2 := by unfold wrap64; omega
  rw [e1]
  generalize (v5 + 1) * v2 * v3 = p at h3 h4 ⊢
  have e2 : wrap64 p = p := by unfold wrap64; omega
  rw [e2]
  have e3 : wrap64 (320 + 48 * v5 + 8 * v1 + p) = 320 + 48 * v5 + 8 * v1 + p := by unfold wrap64; omega
  rw [e3]
  have e4 : wrap64 (320 + 48 * v5 + 8 * v1 + p + v3) = 320 + 48 * v5 + 8 * v1 + p + v3 := by unfold wrap64; omega
  rw [e4]
  have e5 : wrap64 (320 + 48 * v5 + 8 * v1 + p + v3 - 1) = 320 + 48 * v5 + 8 * v1 + p + v3 - 1 := by unfold wrap64; omega
  rw [e5, Int.tdiv_eq_ediv_of_nonneg (by omega)]
  have h5 : (320 + 48 * v5 + 8 * v1 + p + v3 - 1) / v3 ≤ 320 + 48 * v5 + 8 * v1 + p + v3 - 1 := Int.ediv_le_self _ (by omega)
  have h6 : 0 ≤ (320 + 48 * v5 + 8 * v1 + p + v3 - 1) / v3 := Int.ediv_nonneg (by omega) (by omega)
  generalize (320 + 48 * v5 + 8 * v1 + p + v3 - 1) / v3 = q at h5 h6 ⊢
  have e6 : wrap64 q = q := by unfold wrap64; omega
  rw [e6]
  unfold wrap64
  omega
set_option maxHeartbeats 800000 in
set_option maxRecDepth 100000 in
theorem conf_Room_yes (i v1 v2 v3 v4 v5 v6 v7 v8 v9 v10 : Int) (w : World) (h : Aside0 (saneB [v1, v2, v3, v4, v5, v6, v7, v8, v9, v10] = true)) :
    Calls Try.prog 144 #[.agg #[.int .i64 i, .int .i64 v1, .int .i64 v2, .int .i64 v3, .int .i64 v4, .int .i64 v5, .int .i64 v6, .int .i64 v7, .int .i64 v8, .int .i64 v9, .int .i64 v10]] w fun e w' => e = .returned (.int .i64 ((320 + 48 * v5 + 8 * v1 + (v5 + 1) * v2 * v3 + v3 - 1) / v3 + 2)) ∧ Below w.heap.size w w' := by
  have hu := Try.underlying68
  obtain ⟨⟨_, _⟩, ⟨_, _⟩, ⟨_, _⟩, ⟨_, _⟩, ⟨_, _⟩, ⟨_, _⟩, ⟨_, _⟩, ⟨_, _⟩, ⟨_, _⟩, ⟨_, _⟩⟩ := saneB_at h.out
  go_enter Try.func144, Try.ntmps144
  go_wp2_with (first | (go_at_call 158; refine (conf_numbers_any _ _).mono ?_; rintro e w1 ⟨n, rfl, rfl⟩) | (go_at_call 152; go_in))
  refine (conf_sane10 _ (w.heap.size + 1 + 1) (w.heap.size + 1) i v1 v2 v3 v4 v5 v6 v7 v8 v9 v10 (0, 0) (0, 0) (heap3_top w _ _ _ _) (heap3_mid w _ _ _ _)).mono ?_
  rintro e w1 ⟨rfl, rfl⟩
  rw [h.out]
  go_wp2
  go_ret
  exact ⟨my_ret_int (room_wrap v1 v2 v3 v5 (by omega) (by omega) (by omega) (by omega) (by omega) (by omega) (by omega) (by omega)), below3 _ _ _ _ _⟩
set_option maxHeartbeats 800000 in
set_option maxRecDepth 100000 in
theorem conf_Room_no (i v1 v2 v3 v4 v5 v6 v7 v8 v9 v10 : Int) (w : World) (h : Aside0 (saneB [v1, v2, v3, v4, v5, v6, v7, v8, v9, v10] = false)) :
    Calls Try.prog 144 #[.agg #[.int .i64 i, .int .i64 v1, .int .i64 v2, .int .i64 v3, .int .i64 v4, .int .i64 v5, .int .i64 v6, .int .i64 v7, .int .i64 v8, .int .i64 v9, .int .i64 v10]] w fun e w' => e = .returned (.int .i64 0) ∧ Below w.heap.size w w' := by
  have hu := Try.underlying68
  go_enter Try.func144, Try.ntmps144
  go_wp2_with (first | (go_at_call 158; refine (conf_numbers_any _ _).mono ?_; rintro e w1 ⟨n, rfl, rfl⟩) | (go_at_call 152; go_in))
  refine (conf_sane10 _ (w.heap.size + 1 + 1) (w.heap.size + 1) i v1 v2 v3 v4 v5 v6 v7 v8 v9 v10 (0, 0) (0, 0) (heap3_top w _ _ _ _) (heap3_mid w _ _ _ _)).mono ?_
  rintro e w1 ⟨rfl, rfl⟩
  rw [h.out]
  go_wp2
  go_ret
  exact ⟨rfl, below3 _ _ _ _ _⟩
def conf_Room.v (v1 v2 v3 v4 v5 v6 v7 v8 v9 v10 : Int) : Int := if saneB [v1, v2, v3, v4, v5, v6, v7, v8, v9, v10] = true then (320 + 48 * v5 + 8 * v1 + (v5 + 1) * v2 * v3 + v3 - 1) / v3 + 2 else 0
def conf_Room.f (a0_0 : Int) (a0_1 : Int) (a0_2 : Int) (a0_3 : Int) (a0_4 : Int) (a0_5 : Int) (a0_6 : Int) (a0_7 : Int) (a0_8 : Int) (a0_9 : Int) (a0_10 : Int) : Option Int := some (conf_Room.v a0_1 a0_2 a0_3 a0_4 a0_5 a0_6 a0_7 a0_8 a0_9 a0_10)
theorem conf_Room.calls (a0_0 : Int) (a0_1 : Int) (a0_2 : Int) (a0_3 : Int) (a0_4 : Int) (a0_5 : Int) (a0_6 : Int) (a0_7 : Int) (a0_8 : Int) (a0_9 : Int) (a0_10 : Int) (r : Int) (w : World) (h : conf_Room.f a0_0 a0_1 a0_2 a0_3 a0_4 a0_5 a0_6 a0_7 a0_8 a0_9 a0_10 = some r) :
    Calls Try.prog 144 #[.agg #[.int .i64 a0_0, .int .i64 a0_1, .int .i64 a0_2, .int .i64 a0_3, .int .i64 a0_4, .int .i64 a0_5, .int .i64 a0_6, .int .i64 a0_7, .int .i64 a0_8, .int .i64 a0_9, .int .i64 a0_10]] w fun e w' => e = .returned (.int .i64 r) ∧ Below w.heap.size w w' := by
  obtain rfl := Option.some.inj h
  cases hs : saneB [a0_1, a0_2, a0_3, a0_4, a0_5, a0_6, a0_7, a0_8, a0_9, a0_10] with
  | true => unfold conf_Room.v; rw [if_pos hs]; exact conf_Room_yes a0_0 a0_1 a0_2 a0_3 a0_4 a0_5 a0_6 a0_7 a0_8 a0_9 a0_10 w ⟨hs⟩
  | false => unfold conf_Room.v; rw [if_neg (by rw [hs]; decide)]; exact conf_Room_no a0_0 a0_1 a0_2 a0_3 a0_4 a0_5 a0_6 a0_7 a0_8 a0_9 a0_10 w ⟨hs⟩

end Go.Proofs.Ythpggaglmdnncaa.M
