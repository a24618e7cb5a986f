-- Written by wip/tools/mine.py (a program of this session, over the kit's print and texts of its own).
import Derived.ArgAppend
import Derived.Below
import Derived.BigQuiet
import Derived.Deep.AppendLies
import Derived.Deep.CutBlock
import Derived.Deep.DeepCutAuto
import Derived.Deep.Draws
import Derived.Deep.LoopGhost
import Derived.Deep.OwnRows
import Derived.Deep.QuietTactic
import Derived.Deep.RegionHeld3
import Derived.KernelRfl
import Derived.Laws.BitsLemmas
import Derived.Laws.BytesArg
import Derived.Laws.IdiomCopy
import Derived.Laws.MakeOwn
import Derived.Laws.OwnMore
import Derived.Laws.Rows
import Derived.Laws.Slices
import Derived.Lib.AppendStr
import Derived.Lib.ConvBytes
import Derived.Maps.AppendAt
import Derived.OrdersHeld
import Derived.OwnWalk
import Derived.RowKit
import Derived.RowKit3
import Derived.Tactics
import Derived.Test.YthpggaglmdnncaaFMyWords
import Derived.Test.YthpggaglmdnncaaProg
import Derived.Test.YthpggaglmdnncaaFWApart
import Derived.Test.YthpggaglmdnncaaFWArr
import Derived.Test.YthpggaglmdnncaaFWAt
import Derived.Test.YthpggaglmdnncaaFWEqStruct
import Derived.Test.YthpggaglmdnncaaFWFoot
import Derived.Test.YthpggaglmdnncaaFWFootNe
import Derived.Test.YthpggaglmdnncaaFWFour
import Derived.Test.YthpggaglmdnncaaFWGuard
import Derived.Test.YthpggaglmdnncaaFWInv
import Derived.Test.YthpggaglmdnncaaFWInvWords
import Derived.Test.YthpggaglmdnncaaFWKept
import Derived.Test.YthpggaglmdnncaaFWLast
import Derived.Test.YthpggaglmdnncaaFWMore
import Derived.Test.YthpggaglmdnncaaFWN
import Derived.Test.YthpggaglmdnncaaFWNEv
import Derived.Test.YthpggaglmdnncaaFWQPut
import Derived.Test.YthpggaglmdnncaaFWRepsOne
import Derived.Test.YthpggaglmdnncaaFWShare
import Derived.Test.YthpggaglmdnncaaFWTab
import Derived.Test.YthpggaglmdnncaaFWWords
import Derived.Test.YthpggaglmdnncaaFWZeros
import Derived.WalkKit
import Derived.WideLaws
import Derived.Test.YthpggaglmdnncaaFMconf
namespace Go.Proofs.Ythpggaglmdnncaa.M
open Go.RowKit Go.Proofs.YthpggaglmdnncaaW.PrintWords Go.Proofs.YthpggaglmdnncaaW.PrintLast Go.Proofs.YthpggaglmdnncaaW.PrintMore Go.Proofs.YthpggaglmdnncaaW.MyWords
attribute [local go_sem] max2_int min2_int max_two min_two max_three min_three max_four min_four -- for this text's walks alone
set_option linter.unusedVariables false
set_option linter.unusedSimpArgs false

def inB (n lo hi : Int) : Bool := decide (lo ≤ n) && decide (n ≤ hi)
theorem inB_at {n lo hi : Int} (h : inB n lo hi = true) : lo ≤ n ∧ n ≤ hi := by simpa [inB] using h
set_option maxHeartbeats 800000 in
set_option maxRecDepth 100000 in
theorem conf_in_any (n lo hi : Int) (w : World) : Calls Try.prog 142 #[.int .i64 n, .int .i64 lo, .int .i64 hi] w fun e w' => e = .returned (.bool (inB n lo hi)) ∧ w' = w := by
  by_cases h1 : lo ≤ n
  · by_cases h2 : n ≤ hi
    · have HF : Aside0 (inB n lo hi = true) := ⟨by simp [inB, h1, h2]⟩
      go_enter Try.func142, Try.ntmps142
      go_wp2
      go_ret
      exact ⟨by rw [HF.out]; first | rfl | (simp; done) | (simp [*]; done), rfl⟩
    · have HF : Aside0 (inB n lo hi = false) := ⟨by simp [inB]; omega⟩
      have h3 : decide (n ≤ hi) = false := decide_eq_false h2
      go_enter Try.func142, Try.ntmps142
      go_wp2
      go_ret
      exact ⟨by rw [HF.out]; first | rfl | (simp; done) | (simp [*]; done), rfl⟩
  · have HF : Aside0 (inB n lo hi = false) := ⟨by simp [inB]; omega⟩
    have h3 : decide (lo ≤ n) = false := decide_eq_false h1
    go_enter Try.func142, Try.ntmps142
    go_wp2
    go_ret
    exact ⟨by rw [HF.out]; first | rfl | (simp; done) | (simp [*]; done), rfl⟩
structure HeldC106 (b : Nat) (i v1 v2 v3 v4 v5 v6 v7 v8 v9 v10 : Int) (w W : World) : Prop where
  below : Below w.heap.size w W
  lt : b < W.heap.size
  blk : W.heap[b]? = some (.cells #[.int .i64 i, .int .i64 v1, .int .i64 v2, .int .i64 v3, .int .i64 v4, .int .i64 v5, .int .i64 v6, .int .i64 v7, .int .i64 v8, .int .i64 v9, .int .i64 v10] 68 (0, 0))
theorem HeldC106.step {b : Nat} {i v1 v2 v3 v4 v5 v6 v7 v8 v9 v10 : Int} {w W W2 : World} (h : HeldC106 b i v1 v2 v3 v4 v5 v6 v7 v8 v9 v10 w W) (hb : Below W.heap.size W W2) : HeldC106 b i v1 v2 v3 v4 v5 v6 v7 v8 v9 v10 w W2 :=
  ⟨h.below.trans (hb.mono h.below.size), Nat.lt_of_lt_of_le h.lt hb.size, (hb.block b h.lt).trans h.blk⟩
theorem HeldC106.drew {b : Nat} {i v1 v2 v3 v4 v5 v6 v7 v8 v9 v10 : Int} {w W : World} (h : HeldC106 b i v1 v2 v3 v4 v5 v6 v7 v8 v9 v10 w W) : HeldC106 b i v1 v2 v3 v4 v5 v6 v7 v8 v9 v10 w W.drew := ⟨below_drew1 h.below, h.lt, h.blk⟩
theorem HeldC106.cells {b : Nat} {i v1 v2 v3 v4 v5 v6 v7 v8 v9 v10 : Int} {w W : World} (h : HeldC106 b i v1 v2 v3 v4 v5 v6 v7 v8 v9 v10 w W) : W.cell? ⟨b, 0, none⟩ = some (.int .i64 i) ∧ W.cell? ⟨b, 1, none⟩ = some (.int .i64 v1) ∧ W.cell? ⟨b, 2, none⟩ = some (.int .i64 v2) ∧ W.cell? ⟨b, 3, none⟩ = some (.int .i64 v3) ∧ W.cell? ⟨b, 4, none⟩ = some (.int .i64 v4) ∧ W.cell? ⟨b, 5, none⟩ = some (.int .i64 v5) ∧ W.cell? ⟨b, 6, none⟩ = some (.int .i64 v6) ∧ W.cell? ⟨b, 7, none⟩ = some (.int .i64 v7) ∧ W.cell? ⟨b, 8, none⟩ = some (.int .i64 v8) ∧ W.cell? ⟨b, 9, none⟩ = some (.int .i64 v9) ∧ W.cell? ⟨b, 10, none⟩ = some (.int .i64 v10) := by
  refine ⟨?_, ?_, ?_, ?_, ?_, ?_, ?_, ?_, ?_, ?_, ?_⟩ <;> exact (cell_of_row W b _ _ 68 (0, 0) h.blk).trans rfl
theorem HeldC106.start (i v1 v2 v3 v4 v5 v6 v7 v8 v9 v10 : Int) (w : World) {W : World} (h : Below (w.alloc (.cells #[.int .i64 i, .int .i64 v1, .int .i64 v2, .int .i64 v3, .int .i64 v4, .int .i64 v5, .int .i64 v6, .int .i64 v7, .int .i64 v8, .int .i64 v9, .int .i64 v10] 68)).heap.size (w.alloc (.cells #[.int .i64 i, .int .i64 v1, .int .i64 v2, .int .i64 v3, .int .i64 v4, .int .i64 v5, .int .i64 v6, .int .i64 v7, .int .i64 v8, .int .i64 v9, .int .i64 v10] 68)) W) : HeldC106 w.heap.size i v1 v2 v3 v4 v5 v6 v7 v8 v9 v10 w W :=
  ⟨((Below.refl w.heap.size w).alloc (Nat.le_refl _) _).trans (h.mono (by simp)), Nat.lt_of_lt_of_le (by simp) h.size, (h.block w.heap.size (by simp)).trans (heap_alloc_new w _)⟩
def conf_Check.ok (i v1 v2 v3 v4 v5 v6 v7 v8 v9 v10 : Int) : Bool := (inB i 0 1099511627776) && ((inB v1 3 16) && ((inB v2 1 64) && ((inB v3 1 4096) && ((inB v4 1 4096) && ((v4 % v2 == 0) && ((inB v5 1 64) && ((inB v6 1 64) && ((inB v7 3 64) && ((decide (conf_All.v v1 v2 v3 v4 v5 v6 v7 v8 v9 v10 ≤ 64)) && ((inB v9 1 v5) && ((inB v8 1 v9) && ((inB v10 (v9 + v6 + v7) 64)))))))))))))
def conf_Check.v (i v1 v2 v3 v4 v5 v6 v7 v8 v9 v10 : Int) : Int := if conf_Check.ok i v1 v2 v3 v4 v5 v6 v7 v8 v9 v10 = true then (if conf_Room.v v1 v2 v3 v4 v5 v6 v7 v8 v9 v10 > v4 then 17 else 0) else 1
set_option maxHeartbeats 800000 in
set_option maxRecDepth 100000 in
theorem conf_Check_f0 (i v1 v2 v3 v4 v5 v6 v7 v8 v9 v10 : Int) (w : World) (t0 : (inB i 0 1099511627776) = false) :
    Calls Try.prog 106 #[.agg #[.int .i64 i, .int .i64 v1, .int .i64 v2, .int .i64 v3, .int .i64 v4, .int .i64 v5, .int .i64 v6, .int .i64 v7, .int .i64 v8, .int .i64 v9, .int .i64 v10]] w fun e w' => e = .returned (.int .i64 1) ∧ Below w.heap.size w w' := by
  have hu := Try.underlying68
  go_enter Try.func106, Try.ntmps106
  go_wp2_with (first | (go_at_call 142; refine (conf_in_any _ _ _ _).mono ?_; rintro e wq ⟨rfl, rfl⟩) | (go_at_call 143; refine (conf_All.calls i v1 v2 v3 v4 v5 v6 v7 v8 v9 v10 _ _ rfl).mono ?_; rintro e w1 ⟨rfl, hb1⟩; have HB1 := Aside0.mk hb1; obtain ⟨hc1, hf1⟩ := bcell hb1; clear hb1) | (go_at_call 144; refine (conf_Room.calls i v1 v2 v3 v4 v5 v6 v7 v8 v9 v10 _ _ rfl).mono ?_; rintro e w2 ⟨rfl, hb2⟩; have HB2 := Aside0.mk hb2; clear hb2))
  go_ret
  exact ⟨rfl, ((Below.refl w.heap.size w).alloc (Nat.le_refl _) _)⟩
set_option maxHeartbeats 800000 in
set_option maxRecDepth 100000 in
theorem conf_Check_f1 (i v1 v2 v3 v4 v5 v6 v7 v8 v9 v10 : Int) (w : World) (t0 : (inB i 0 1099511627776) = true) (t1 : (inB v1 3 16) = false) :
    Calls Try.prog 106 #[.agg #[.int .i64 i, .int .i64 v1, .int .i64 v2, .int .i64 v3, .int .i64 v4, .int .i64 v5, .int .i64 v6, .int .i64 v7, .int .i64 v8, .int .i64 v9, .int .i64 v10]] w fun e w' => e = .returned (.int .i64 1) ∧ Below w.heap.size w w' := by
  have hu := Try.underlying68
  go_enter Try.func106, Try.ntmps106
  go_wp2_with (first | (go_at_call 142; refine (conf_in_any _ _ _ _).mono ?_; rintro e wq ⟨rfl, rfl⟩) | (go_at_call 143; refine (conf_All.calls i v1 v2 v3 v4 v5 v6 v7 v8 v9 v10 _ _ rfl).mono ?_; rintro e w1 ⟨rfl, hb1⟩; have HB1 := Aside0.mk hb1; obtain ⟨hc1, hf1⟩ := bcell hb1; clear hb1) | (go_at_call 144; refine (conf_Room.calls i v1 v2 v3 v4 v5 v6 v7 v8 v9 v10 _ _ rfl).mono ?_; rintro e w2 ⟨rfl, hb2⟩; have HB2 := Aside0.mk hb2; clear hb2))
  go_ret
  exact ⟨rfl, ((Below.refl w.heap.size w).alloc (Nat.le_refl _) _)⟩
set_option maxHeartbeats 800000 in
set_option maxRecDepth 100000 in
theorem conf_Check_f2 (i v1 v2 v3 v4 v5 v6 v7 v8 v9 v10 : Int) (w : World) (t0 : (inB i 0 1099511627776) = true) (t1 : (inB v1 3 16) = true) (t2 : (inB v2 1 64) = false) :
    Calls Try.prog 106 #[.agg #[.int .i64 i, .int .i64 v1, .int .i64 v2, .int .i64 v3, .int .i64 v4, .int .i64 v5, .int .i64 v6, .int .i64 v7, .int .i64 v8, .int .i64 v9, .int .i64 v10]] w fun e w' => e = .returned (.int .i64 1) ∧ Below w.heap.size w w' := by
  have hu := Try.underlying68
  go_enter Try.func106, Try.ntmps106
  go_wp2_with (first | (go_at_call 142; refine (conf_in_any _ _ _ _).mono ?_; rintro e wq ⟨rfl, rfl⟩) | (go_at_call 143; refine (conf_All.calls i v1 v2 v3 v4 v5 v6 v7 v8 v9 v10 _ _ rfl).mono ?_; rintro e w1 ⟨rfl, hb1⟩; have HB1 := Aside0.mk hb1; obtain ⟨hc1, hf1⟩ := bcell hb1; clear hb1) | (go_at_call 144; refine (conf_Room.calls i v1 v2 v3 v4 v5 v6 v7 v8 v9 v10 _ _ rfl).mono ?_; rintro e w2 ⟨rfl, hb2⟩; have HB2 := Aside0.mk hb2; clear hb2))
  go_ret
  exact ⟨rfl, ((Below.refl w.heap.size w).alloc (Nat.le_refl _) _)⟩
set_option maxHeartbeats 800000 in
set_option maxRecDepth 100000 in
theorem conf_Check_f3 (i v1 v2 v3 v4 v5 v6 v7 v8 v9 v10 : Int) (w : World) (t0 : (inB i 0 1099511627776) = true) (t1 : (inB v1 3 16) = true) (t2 : (inB v2 1 64) = true) (t3 : (inB v3 1 4096) = false) :
    Calls Try.prog 106 #[.agg #[.int .i64 i, .int .i64 v1, .int .i64 v2, .int .i64 v3, .int .i64 v4, .int .i64 v5, .int .i64 v6, .int .i64 v7, .int .i64 v8, .int .i64 v9, .int .i64 v10]] w fun e w' => e = .returned (.int .i64 1) ∧ Below w.heap.size w w' := by
  have hu := Try.underlying68
  obtain ⟨b2, b2'⟩ := inB_at t2
  go_enter Try.func106, Try.ntmps106
  go_wp2_with (first | (go_at_call 142; refine (conf_in_any _ _ _ _).mono ?_; rintro e wq ⟨rfl, rfl⟩) | (go_at_call 143; refine (conf_All.calls i v1 v2 v3 v4 v5 v6 v7 v8 v9 v10 _ _ rfl).mono ?_; rintro e w1 ⟨rfl, hb1⟩; have HB1 := Aside0.mk hb1; obtain ⟨hc1, hf1⟩ := bcell hb1; clear hb1) | (go_at_call 144; refine (conf_Room.calls i v1 v2 v3 v4 v5 v6 v7 v8 v9 v10 _ _ rfl).mono ?_; rintro e w2 ⟨rfl, hb2⟩; have HB2 := Aside0.mk hb2; clear hb2))
  go_ret
  exact ⟨rfl, ((Below.refl w.heap.size w).alloc (Nat.le_refl _) _)⟩
set_option maxHeartbeats 800000 in
set_option maxRecDepth 100000 in
theorem conf_Check_f4 (i v1 v2 v3 v4 v5 v6 v7 v8 v9 v10 : Int) (w : World) (t0 : (inB i 0 1099511627776) = true) (t1 : (inB v1 3 16) = true) (t2 : (inB v2 1 64) = true) (t3 : (inB v3 1 4096) = true) (t4 : (inB v4 1 4096) = false) :
    Calls Try.prog 106 #[.agg #[.int .i64 i, .int .i64 v1, .int .i64 v2, .int .i64 v3, .int .i64 v4, .int .i64 v5, .int .i64 v6, .int .i64 v7, .int .i64 v8, .int .i64 v9, .int .i64 v10]] w fun e w' => e = .returned (.int .i64 1) ∧ Below w.heap.size w w' := by
  have hu := Try.underlying68
  obtain ⟨b2, b2'⟩ := inB_at t2
  go_enter Try.func106, Try.ntmps106
  go_wp2_with (first | (go_at_call 142; refine (conf_in_any _ _ _ _).mono ?_; rintro e wq ⟨rfl, rfl⟩) | (go_at_call 143; refine (conf_All.calls i v1 v2 v3 v4 v5 v6 v7 v8 v9 v10 _ _ rfl).mono ?_; rintro e w1 ⟨rfl, hb1⟩; have HB1 := Aside0.mk hb1; obtain ⟨hc1, hf1⟩ := bcell hb1; clear hb1) | (go_at_call 144; refine (conf_Room.calls i v1 v2 v3 v4 v5 v6 v7 v8 v9 v10 _ _ rfl).mono ?_; rintro e w2 ⟨rfl, hb2⟩; have HB2 := Aside0.mk hb2; clear hb2))
  go_ret
  exact ⟨rfl, ((Below.refl w.heap.size w).alloc (Nat.le_refl _) _)⟩
set_option maxHeartbeats 800000 in
set_option maxRecDepth 100000 in
theorem conf_Check_f5 (i v1 v2 v3 v4 v5 v6 v7 v8 v9 v10 : Int) (w : World) (t0 : (inB i 0 1099511627776) = true) (t1 : (inB v1 3 16) = true) (t2 : (inB v2 1 64) = true) (t3 : (inB v3 1 4096) = true) (t4 : (inB v4 1 4096) = true) (t5 : (v4 % v2 == 0) = false) :
    Calls Try.prog 106 #[.agg #[.int .i64 i, .int .i64 v1, .int .i64 v2, .int .i64 v3, .int .i64 v4, .int .i64 v5, .int .i64 v6, .int .i64 v7, .int .i64 v8, .int .i64 v9, .int .i64 v10]] w fun e w' => e = .returned (.int .i64 1) ∧ Below w.heap.size w w' := by
  have hu := Try.underlying68
  obtain ⟨b2, b2'⟩ := inB_at t2
  obtain ⟨b4, b4'⟩ := inB_at t4
  have t5a : ((v4 % v2 : Int) == 0) = false := t5
  have t5b : ((v4 % v2 : Int) != 0) = true := by rw [bne, t5a]; rfl
  go_enter Try.func106, Try.ntmps106
  go_wp2_with (first | (go_at_call 142; refine (conf_in_any _ _ _ _).mono ?_; rintro e wq ⟨rfl, rfl⟩) | (go_at_call 143; refine (conf_All.calls i v1 v2 v3 v4 v5 v6 v7 v8 v9 v10 _ _ rfl).mono ?_; rintro e w1 ⟨rfl, hb1⟩; have HB1 := Aside0.mk hb1; obtain ⟨hc1, hf1⟩ := bcell hb1; clear hb1) | (go_at_call 144; refine (conf_Room.calls i v1 v2 v3 v4 v5 v6 v7 v8 v9 v10 _ _ rfl).mono ?_; rintro e w2 ⟨rfl, hb2⟩; have HB2 := Aside0.mk hb2; clear hb2))
  go_ret
  exact ⟨rfl, ((Below.refl w.heap.size w).alloc (Nat.le_refl _) _)⟩
set_option maxHeartbeats 800000 in
set_option maxRecDepth 100000 in
theorem conf_Check_f6 (i v1 v2 v3 v4 v5 v6 v7 v8 v9 v10 : Int) (w : World) (t0 : (inB i 0 1099511627776) = true) (t1 : (inB v1 3 16) = true) (t2 : (inB v2 1 64) = true) (t3 : (inB v3 1 4096) = true) (t4 : (inB v4 1 4096) = true) (t5 : (v4 % v2 == 0) = true) (t6 : (inB v5 1 64) = false) :
    Calls Try.prog 106 #[.agg #[.int .i64 i, .int .i64 v1, .int .i64 v2, .int .i64 v3, .int .i64 v4, .int .i64 v5, .int .i64 v6, .int .i64 v7, .int .i64 v8, .int .i64 v9, .int .i64 v10]] w fun e w' => e = .returned (.int .i64 1) ∧ Below w.heap.size w w' := by
  have hu := Try.underlying68
  obtain ⟨b2, b2'⟩ := inB_at t2
  obtain ⟨b4, b4'⟩ := inB_at t4
  have t5a : ((v4 % v2 : Int) == 0) = true := t5
  have t5b : ((v4 % v2 : Int) != 0) = false := by rw [bne, t5a]; rfl
  go_enter Try.func106, Try.ntmps106
  go_wp2_with (first | (go_at_call 142; refine (conf_in_any _ _ _ _).mono ?_; rintro e wq ⟨rfl, rfl⟩) | (go_at_call 143; refine (conf_All.calls i v1 v2 v3 v4 v5 v6 v7 v8 v9 v10 _ _ rfl).mono ?_; rintro e w1 ⟨rfl, hb1⟩; have HB1 := Aside0.mk hb1; obtain ⟨hc1, hf1⟩ := bcell hb1; clear hb1) | (go_at_call 144; refine (conf_Room.calls i v1 v2 v3 v4 v5 v6 v7 v8 v9 v10 _ _ rfl).mono ?_; rintro e w2 ⟨rfl, hb2⟩; have HB2 := Aside0.mk hb2; clear hb2))
  go_ret
  exact ⟨rfl, ((Below.refl w.heap.size w).alloc (Nat.le_refl _) _)⟩
set_option maxHeartbeats 800000 in
set_option maxRecDepth 100000 in
theorem conf_Check_f7 (i v1 v2 v3 v4 v5 v6 v7 v8 v9 v10 : Int) (w : World) (t0 : (inB i 0 1099511627776) = true) (t1 : (inB v1 3 16) = true) (t2 : (inB v2 1 64) = true) (t3 : (inB v3 1 4096) = true) (t4 : (inB v4 1 4096) = true) (t5 : (v4 % v2 == 0) = true) (t6 : (inB v5 1 64) = true) (t7 : (inB v6 1 64) = false) :
    Calls Try.prog 106 #[.agg #[.int .i64 i, .int .i64 v1, .int .i64 v2, .int .i64 v3, .int .i64 v4, .int .i64 v5, .int .i64 v6, .int .i64 v7, .int .i64 v8, .int .i64 v9, .int .i64 v10]] w fun e w' => e = .returned (.int .i64 1) ∧ Below w.heap.size w w' := by
  have hu := Try.underlying68
  obtain ⟨b2, b2'⟩ := inB_at t2
  obtain ⟨b4, b4'⟩ := inB_at t4
  obtain ⟨b6, b6'⟩ := inB_at t6
  have t5a : ((v4 % v2 : Int) == 0) = true := t5
  have t5b : ((v4 % v2 : Int) != 0) = false := by rw [bne, t5a]; rfl
  go_enter Try.func106, Try.ntmps106
  go_wp2_with (first | (go_at_call 142; refine (conf_in_any _ _ _ _).mono ?_; rintro e wq ⟨rfl, rfl⟩) | (go_at_call 143; refine (conf_All.calls i v1 v2 v3 v4 v5 v6 v7 v8 v9 v10 _ _ rfl).mono ?_; rintro e w1 ⟨rfl, hb1⟩; have HB1 := Aside0.mk hb1; obtain ⟨hc1, hf1⟩ := bcell hb1; clear hb1) | (go_at_call 144; refine (conf_Room.calls i v1 v2 v3 v4 v5 v6 v7 v8 v9 v10 _ _ rfl).mono ?_; rintro e w2 ⟨rfl, hb2⟩; have HB2 := Aside0.mk hb2; clear hb2))
  go_ret
  exact ⟨rfl, ((Below.refl w.heap.size w).alloc (Nat.le_refl _) _)⟩
set_option maxHeartbeats 800000 in
set_option maxRecDepth 100000 in
theorem conf_Check_f8 (i v1 v2 v3 v4 v5 v6 v7 v8 v9 v10 : Int) (w : World) (t0 : (inB i 0 1099511627776) = true) (t1 : (inB v1 3 16) = true) (t2 : (inB v2 1 64) = true) (t3 : (inB v3 1 4096) = true) (t4 : (inB v4 1 4096) = true) (t5 : (v4 % v2 == 0) = true) (t6 : (inB v5 1 64) = true) (t7 : (inB v6 1 64) = true) (t8 : (inB v7 3 64) = false) :
    Calls Try.prog 106 #[.agg #[.int .i64 i, .int .i64 v1, .int .i64 v2, .int .i64 v3, .int .i64 v4, .int .i64 v5, .int .i64 v6, .int .i64 v7, .int .i64 v8, .int .i64 v9, .int .i64 v10]] w fun e w' => e = .returned (.int .i64 1) ∧ Below w.heap.size w w' := by
  have hu := Try.underlying68
  obtain ⟨b2, b2'⟩ := inB_at t2
  obtain ⟨b4, b4'⟩ := inB_at t4
  obtain ⟨b7, b7'⟩ := inB_at t7
  obtain ⟨b6, b6'⟩ := inB_at t6
  have t5a : ((v4 % v2 : Int) == 0) = true := t5
  have t5b : ((v4 % v2 : Int) != 0) = false := by rw [bne, t5a]; rfl
  go_enter Try.func106, Try.ntmps106
  go_wp2_with (first | (go_at_call 142; refine (conf_in_any _ _ _ _).mono ?_; rintro e wq ⟨rfl, rfl⟩) | (go_at_call 143; refine (conf_All.calls i v1 v2 v3 v4 v5 v6 v7 v8 v9 v10 _ _ rfl).mono ?_; rintro e w1 ⟨rfl, hb1⟩; have HB1 := Aside0.mk hb1; obtain ⟨hc1, hf1⟩ := bcell hb1; clear hb1) | (go_at_call 144; refine (conf_Room.calls i v1 v2 v3 v4 v5 v6 v7 v8 v9 v10 _ _ rfl).mono ?_; rintro e w2 ⟨rfl, hb2⟩; have HB2 := Aside0.mk hb2; clear hb2))
  go_ret
  exact ⟨rfl, ((Below.refl w.heap.size w).alloc (Nat.le_refl _) _)⟩
set_option maxHeartbeats 800000 in
set_option maxRecDepth 100000 in
theorem conf_Check_f9 (i v1 v2 v3 v4 v5 v6 v7 v8 v9 v10 : Int) (w : World) (t0 : (inB i 0 1099511627776) = true) (t1 : (inB v1 3 16) = true) (t2 : (inB v2 1 64) = true) (t3 : (inB v3 1 4096) = true) (t4 : (inB v4 1 4096) = true) (t5 : (v4 % v2 == 0) = true) (t6 : (inB v5 1 64) = true) (t7 : (inB v6 1 64) = true) (t8 : (inB v7 3 64) = true) (t9 : (decide (conf_All.v v1 v2 v3 v4 v5 v6 v7 v8 v9 v10 ≤ 64)) = false) :
    Calls Try.prog 106 #[.agg #[.int .i64 i, .int .i64 v1, .int .i64 v2, .int .i64 v3, .int .i64 v4, .int .i64 v5, .int .i64 v6, .int .i64 v7, .int .i64 v8, .int .i64 v9, .int .i64 v10]] w fun e w' => e = .returned (.int .i64 1) ∧ Below w.heap.size w w' := by
  have hu := Try.underlying68
  obtain ⟨b2, b2'⟩ := inB_at t2
  obtain ⟨b4, b4'⟩ := inB_at t4
  obtain ⟨b7, b7'⟩ := inB_at t7
  obtain ⟨b8, b8'⟩ := inB_at t8
  obtain ⟨b6, b6'⟩ := inB_at t6
  have t5a : ((v4 % v2 : Int) == 0) = true := t5
  have t5b : ((v4 % v2 : Int) != 0) = false := by rw [bne, t5a]; rfl
  have t9a : decide (64 < conf_All.v v1 v2 v3 v4 v5 v6 v7 v8 v9 v10) = true := by have := of_decide_eq_false t9; exact decide_eq_true (by omega)
  clear t9
  go_enter Try.func106, Try.ntmps106
  go_wp2_with (first | (go_at_call 142; refine (conf_in_any _ _ _ _).mono ?_; rintro e wq ⟨rfl, rfl⟩) | (go_at_call 143; refine (conf_All.calls i v1 v2 v3 v4 v5 v6 v7 v8 v9 v10 _ _ rfl).mono ?_; rintro e w1 ⟨rfl, hb1⟩; have HB1 := Aside0.mk hb1; obtain ⟨hc1, hf1⟩ := bcell hb1; clear hb1) | (go_at_call 144; refine (conf_Room.calls i v1 v2 v3 v4 v5 v6 v7 v8 v9 v10 _ _ rfl).mono ?_; rintro e w2 ⟨rfl, hb2⟩; have HB2 := Aside0.mk hb2; clear hb2))
  go_ret
  exact ⟨rfl, (((Below.refl w.heap.size w).alloc (Nat.le_refl _) _).trans (HB1.out.mono (by simp)))⟩
set_option maxHeartbeats 800000 in
set_option maxRecDepth 100000 in
theorem conf_Check_f10 (i v1 v2 v3 v4 v5 v6 v7 v8 v9 v10 : Int) (w : World) (t0 : (inB i 0 1099511627776) = true) (t1 : (inB v1 3 16) = true) (t2 : (inB v2 1 64) = true) (t3 : (inB v3 1 4096) = true) (t4 : (inB v4 1 4096) = true) (t5 : (v4 % v2 == 0) = true) (t6 : (inB v5 1 64) = true) (t7 : (inB v6 1 64) = true) (t8 : (inB v7 3 64) = true) (t9 : (decide (conf_All.v v1 v2 v3 v4 v5 v6 v7 v8 v9 v10 ≤ 64)) = true) (t10 : (inB v9 1 v5) = false) :
    Calls Try.prog 106 #[.agg #[.int .i64 i, .int .i64 v1, .int .i64 v2, .int .i64 v3, .int .i64 v4, .int .i64 v5, .int .i64 v6, .int .i64 v7, .int .i64 v8, .int .i64 v9, .int .i64 v10]] w fun e w' => e = .returned (.int .i64 1) ∧ Below w.heap.size w w' := by
  have hu := Try.underlying68
  obtain ⟨b2, b2'⟩ := inB_at t2
  obtain ⟨b4, b4'⟩ := inB_at t4
  obtain ⟨b7, b7'⟩ := inB_at t7
  obtain ⟨b8, b8'⟩ := inB_at t8
  obtain ⟨b6, b6'⟩ := inB_at t6
  have t5a : ((v4 % v2 : Int) == 0) = true := t5
  have t5b : ((v4 % v2 : Int) != 0) = false := by rw [bne, t5a]; rfl
  have t9a : decide (64 < conf_All.v v1 v2 v3 v4 v5 v6 v7 v8 v9 v10) = false := by have := of_decide_eq_true t9; exact decide_eq_false (by omega)
  clear t9
  go_enter Try.func106, Try.ntmps106
  go_wp2_with (first | (go_at_call 142; refine (conf_in_any _ _ _ _).mono ?_; rintro e wq ⟨rfl, rfl⟩) | (go_at_call 143; refine (conf_All.calls i v1 v2 v3 v4 v5 v6 v7 v8 v9 v10 _ _ rfl).mono ?_; rintro e w1 ⟨rfl, hb1⟩; have HB1 := Aside0.mk hb1; obtain ⟨hc1, hf1⟩ := bcell hb1; clear hb1) | (go_at_call 144; refine (conf_Room.calls i v1 v2 v3 v4 v5 v6 v7 v8 v9 v10 _ _ rfl).mono ?_; rintro e w2 ⟨rfl, hb2⟩; have HB2 := Aside0.mk hb2; clear hb2))
  go_ret
  exact ⟨rfl, (((Below.refl w.heap.size w).alloc (Nat.le_refl _) _).trans (HB1.out.mono (by simp)))⟩
set_option maxHeartbeats 800000 in
set_option maxRecDepth 100000 in
theorem conf_Check_f11 (i v1 v2 v3 v4 v5 v6 v7 v8 v9 v10 : Int) (w : World) (t0 : (inB i 0 1099511627776) = true) (t1 : (inB v1 3 16) = true) (t2 : (inB v2 1 64) = true) (t3 : (inB v3 1 4096) = true) (t4 : (inB v4 1 4096) = true) (t5 : (v4 % v2 == 0) = true) (t6 : (inB v5 1 64) = true) (t7 : (inB v6 1 64) = true) (t8 : (inB v7 3 64) = true) (t9 : (decide (conf_All.v v1 v2 v3 v4 v5 v6 v7 v8 v9 v10 ≤ 64)) = true) (t10 : (inB v9 1 v5) = true) (t11 : (inB v8 1 v9) = false) :
    Calls Try.prog 106 #[.agg #[.int .i64 i, .int .i64 v1, .int .i64 v2, .int .i64 v3, .int .i64 v4, .int .i64 v5, .int .i64 v6, .int .i64 v7, .int .i64 v8, .int .i64 v9, .int .i64 v10]] w fun e w' => e = .returned (.int .i64 1) ∧ Below w.heap.size w w' := by
  have hu := Try.underlying68
  obtain ⟨b2, b2'⟩ := inB_at t2
  obtain ⟨b4, b4'⟩ := inB_at t4
  obtain ⟨b7, b7'⟩ := inB_at t7
  obtain ⟨b8, b8'⟩ := inB_at t8
  obtain ⟨b10, b10'⟩ := inB_at t10
  obtain ⟨b6, b6'⟩ := inB_at t6
  have t5a : ((v4 % v2 : Int) == 0) = true := t5
  have t5b : ((v4 % v2 : Int) != 0) = false := by rw [bne, t5a]; rfl
  have t9a : decide (64 < conf_All.v v1 v2 v3 v4 v5 v6 v7 v8 v9 v10) = false := by have := of_decide_eq_true t9; exact decide_eq_false (by omega)
  clear t9
  go_enter Try.func106, Try.ntmps106
  go_wp2_with (first | (go_at_call 142; refine (conf_in_any _ _ _ _).mono ?_; rintro e wq ⟨rfl, rfl⟩) | (go_at_call 143; refine (conf_All.calls i v1 v2 v3 v4 v5 v6 v7 v8 v9 v10 _ _ rfl).mono ?_; rintro e w1 ⟨rfl, hb1⟩; have HB1 := Aside0.mk hb1; obtain ⟨hc1, hf1⟩ := bcell hb1; clear hb1) | (go_at_call 144; refine (conf_Room.calls i v1 v2 v3 v4 v5 v6 v7 v8 v9 v10 _ _ rfl).mono ?_; rintro e w2 ⟨rfl, hb2⟩; have HB2 := Aside0.mk hb2; clear hb2))
  go_ret
  exact ⟨rfl, (((Below.refl w.heap.size w).alloc (Nat.le_refl _) _).trans (HB1.out.mono (by simp)))⟩
set_option maxHeartbeats 800000 in
set_option maxRecDepth 100000 in
theorem conf_Check_f12 (i v1 v2 v3 v4 v5 v6 v7 v8 v9 v10 : Int) (w : World) (t0 : (inB i 0 1099511627776) = true) (t1 : (inB v1 3 16) = true) (t2 : (inB v2 1 64) = true) (t3 : (inB v3 1 4096) = true) (t4 : (inB v4 1 4096) = true) (t5 : (v4 % v2 == 0) = true) (t6 : (inB v5 1 64) = true) (t7 : (inB v6 1 64) = true) (t8 : (inB v7 3 64) = true) (t9 : (decide (conf_All.v v1 v2 v3 v4 v5 v6 v7 v8 v9 v10 ≤ 64)) = true) (t10 : (inB v9 1 v5) = true) (t11 : (inB v8 1 v9) = true) (t12 : (inB v10 (v9 + v6 + v7) 64) = false) :
    Calls Try.prog 106 #[.agg #[.int .i64 i, .int .i64 v1, .int .i64 v2, .int .i64 v3, .int .i64 v4, .int .i64 v5, .int .i64 v6, .int .i64 v7, .int .i64 v8, .int .i64 v9, .int .i64 v10]] w fun e w' => e = .returned (.int .i64 1) ∧ Below w.heap.size w w' := by
  have hu := Try.underlying68
  obtain ⟨b2, b2'⟩ := inB_at t2
  obtain ⟨b4, b4'⟩ := inB_at t4
  obtain ⟨b7, b7'⟩ := inB_at t7
  obtain ⟨b8, b8'⟩ := inB_at t8
  obtain ⟨b10, b10'⟩ := inB_at t10
  obtain ⟨b6, b6'⟩ := inB_at t6
  have t5a : ((v4 % v2 : Int) == 0) = true := t5
  have t5b : ((v4 % v2 : Int) != 0) = false := by rw [bne, t5a]; rfl
  have t9a : decide (64 < conf_All.v v1 v2 v3 v4 v5 v6 v7 v8 v9 v10) = false := by have := of_decide_eq_true t9; exact decide_eq_false (by omega)
  clear t9
  go_enter Try.func106, Try.ntmps106
  go_wp2_with (first | (go_at_call 142; refine (conf_in_any _ _ _ _).mono ?_; rintro e wq ⟨rfl, rfl⟩) | (go_at_call 143; refine (conf_All.calls i v1 v2 v3 v4 v5 v6 v7 v8 v9 v10 _ _ rfl).mono ?_; rintro e w1 ⟨rfl, hb1⟩; have HB1 := Aside0.mk hb1; obtain ⟨hc1, hf1⟩ := bcell hb1; clear hb1) | (go_at_call 144; refine (conf_Room.calls i v1 v2 v3 v4 v5 v6 v7 v8 v9 v10 _ _ rfl).mono ?_; rintro e w2 ⟨rfl, hb2⟩; have HB2 := Aside0.mk hb2; clear hb2))
  go_ret
  exact ⟨rfl, (((Below.refl w.heap.size w).alloc (Nat.le_refl _) _).trans (HB1.out.mono (by simp)))⟩
set_option maxHeartbeats 800000 in
set_option maxRecDepth 100000 in
theorem conf_Check_r (i v1 v2 v3 v4 v5 v6 v7 v8 v9 v10 : Int) (w : World) (t0 : (inB i 0 1099511627776) = true) (t1 : (inB v1 3 16) = true) (t2 : (inB v2 1 64) = true) (t3 : (inB v3 1 4096) = true) (t4 : (inB v4 1 4096) = true) (t5 : (v4 % v2 == 0) = true) (t6 : (inB v5 1 64) = true) (t7 : (inB v6 1 64) = true) (t8 : (inB v7 3 64) = true) (t9 : (decide (conf_All.v v1 v2 v3 v4 v5 v6 v7 v8 v9 v10 ≤ 64)) = true) (t10 : (inB v9 1 v5) = true) (t11 : (inB v8 1 v9) = true) (t12 : (inB v10 (v9 + v6 + v7) 64) = true) (r : decide (v4 < conf_Room.v v1 v2 v3 v4 v5 v6 v7 v8 v9 v10) = true) :
    Calls Try.prog 106 #[.agg #[.int .i64 i, .int .i64 v1, .int .i64 v2, .int .i64 v3, .int .i64 v4, .int .i64 v5, .int .i64 v6, .int .i64 v7, .int .i64 v8, .int .i64 v9, .int .i64 v10]] w fun e w' => e = .returned (.int .i64 17) ∧ Below w.heap.size w w' := by
  have hu := Try.underlying68
  obtain ⟨b2, b2'⟩ := inB_at t2
  obtain ⟨b4, b4'⟩ := inB_at t4
  obtain ⟨b7, b7'⟩ := inB_at t7
  obtain ⟨b8, b8'⟩ := inB_at t8
  obtain ⟨b10, b10'⟩ := inB_at t10
  obtain ⟨b6, b6'⟩ := inB_at t6
  have t5a : ((v4 % v2 : Int) == 0) = true := t5
  have t5b : ((v4 % v2 : Int) != 0) = false := by rw [bne, t5a]; rfl
  have t9a : decide (64 < conf_All.v v1 v2 v3 v4 v5 v6 v7 v8 v9 v10) = false := by have := of_decide_eq_true t9; exact decide_eq_false (by omega)
  clear t9
  go_enter Try.func106, Try.ntmps106
  go_wp2_with (first | (go_at_call 142; refine (conf_in_any _ _ _ _).mono ?_; rintro e wq ⟨rfl, rfl⟩) | (go_at_call 143; refine (conf_All.calls i v1 v2 v3 v4 v5 v6 v7 v8 v9 v10 _ _ rfl).mono ?_; rintro e w1 ⟨rfl, hb1⟩; have HB1 := Aside0.mk hb1; obtain ⟨hc1, hf1⟩ := bcell hb1; clear hb1) | (go_at_call 144; refine (conf_Room.calls i v1 v2 v3 v4 v5 v6 v7 v8 v9 v10 _ _ rfl).mono ?_; rintro e w2 ⟨rfl, hb2⟩; have HB2 := Aside0.mk hb2; clear hb2))
  have HC0 : HeldC106 w.heap.size i v1 v2 v3 v4 v5 v6 v7 v8 v9 v10 w _ := HeldC106.start i v1 v2 v3 v4 v5 v6 v7 v8 v9 v10 w (HB1.out)
  obtain ⟨hk0, hk1, hk2, hk3, hk4, hk5, hk6, hk7, hk8, hk9, hk10⟩ := HC0.cells
  clear hc1 hf1 HB1
  go_region_held3 (fun W => HeldC106 w.heap.size i v1 v2 v3 v4 v5 v6 v7 v8 v9 v10 w W ∧ W.cell? ⟨w.heap.size, 0, none⟩ = some (.int .i64 i) ∧ W.cell? ⟨w.heap.size, 1, none⟩ = some (.int .i64 v1) ∧ W.cell? ⟨w.heap.size, 2, none⟩ = some (.int .i64 v2) ∧ W.cell? ⟨w.heap.size, 3, none⟩ = some (.int .i64 v3) ∧ W.cell? ⟨w.heap.size, 4, none⟩ = some (.int .i64 v4) ∧ W.cell? ⟨w.heap.size, 5, none⟩ = some (.int .i64 v5) ∧ W.cell? ⟨w.heap.size, 6, none⟩ = some (.int .i64 v6) ∧ W.cell? ⟨w.heap.size, 7, none⟩ = some (.int .i64 v7) ∧ W.cell? ⟨w.heap.size, 8, none⟩ = some (.int .i64 v8) ∧ W.cell? ⟨w.heap.size, 9, none⟩ = some (.int .i64 v9) ∧ W.cell? ⟨w.heap.size, 10, none⟩ = some (.int .i64 v10)) (first | (exact ⟨HeldC106.drew HC0, HeldC106.cells (HeldC106.drew HC0)⟩) | (exact ⟨HeldC106.step (HeldC106.drew HC0) HB2.out, HeldC106.cells (HeldC106.step (HeldC106.drew HC0) HB2.out)⟩) | go_keep) (first | (go_at_call 144; refine (conf_Room.calls i v1 v2 v3 v4 v5 v6 v7 v8 v9 v10 _ _ rfl).mono ?_; rintro e w2 ⟨rfl, hb2⟩; have HB2 := Aside0.mk hb2; clear hb2))
  go_wp2
  go_ret
  exact ⟨rfl, (by rename_i hz_; exact hz_.1.below)⟩
set_option maxHeartbeats 800000 in
set_option maxRecDepth 100000 in
theorem conf_Check_y (i v1 v2 v3 v4 v5 v6 v7 v8 v9 v10 : Int) (w : World) (t0 : (inB i 0 1099511627776) = true) (t1 : (inB v1 3 16) = true) (t2 : (inB v2 1 64) = true) (t3 : (inB v3 1 4096) = true) (t4 : (inB v4 1 4096) = true) (t5 : (v4 % v2 == 0) = true) (t6 : (inB v5 1 64) = true) (t7 : (inB v6 1 64) = true) (t8 : (inB v7 3 64) = true) (t9 : (decide (conf_All.v v1 v2 v3 v4 v5 v6 v7 v8 v9 v10 ≤ 64)) = true) (t10 : (inB v9 1 v5) = true) (t11 : (inB v8 1 v9) = true) (t12 : (inB v10 (v9 + v6 + v7) 64) = true) (r : decide (v4 < conf_Room.v v1 v2 v3 v4 v5 v6 v7 v8 v9 v10) = false) :
    Calls Try.prog 106 #[.agg #[.int .i64 i, .int .i64 v1, .int .i64 v2, .int .i64 v3, .int .i64 v4, .int .i64 v5, .int .i64 v6, .int .i64 v7, .int .i64 v8, .int .i64 v9, .int .i64 v10]] w fun e w' => e = .returned (.int .i64 0) ∧ Below w.heap.size w w' := by
  have hu := Try.underlying68
  obtain ⟨b2, b2'⟩ := inB_at t2
  obtain ⟨b4, b4'⟩ := inB_at t4
  obtain ⟨b7, b7'⟩ := inB_at t7
  obtain ⟨b8, b8'⟩ := inB_at t8
  obtain ⟨b10, b10'⟩ := inB_at t10
  obtain ⟨b6, b6'⟩ := inB_at t6
  have t5a : ((v4 % v2 : Int) == 0) = true := t5
  have t5b : ((v4 % v2 : Int) != 0) = false := by rw [bne, t5a]; rfl
  have t9a : decide (64 < conf_All.v v1 v2 v3 v4 v5 v6 v7 v8 v9 v10) = false := by have := of_decide_eq_true t9; exact decide_eq_false (by omega)
  clear t9
  go_enter Try.func106, Try.ntmps106
  go_wp2_with (first | (go_at_call 142; refine (conf_in_any _ _ _ _).mono ?_; rintro e wq ⟨rfl, rfl⟩) | (go_at_call 143; refine (conf_All.calls i v1 v2 v3 v4 v5 v6 v7 v8 v9 v10 _ _ rfl).mono ?_; rintro e w1 ⟨rfl, hb1⟩; have HB1 := Aside0.mk hb1; obtain ⟨hc1, hf1⟩ := bcell hb1; clear hb1) | (go_at_call 144; refine (conf_Room.calls i v1 v2 v3 v4 v5 v6 v7 v8 v9 v10 _ _ rfl).mono ?_; rintro e w2 ⟨rfl, hb2⟩; have HB2 := Aside0.mk hb2; clear hb2))
  have HC0 : HeldC106 w.heap.size i v1 v2 v3 v4 v5 v6 v7 v8 v9 v10 w _ := HeldC106.start i v1 v2 v3 v4 v5 v6 v7 v8 v9 v10 w (HB1.out)
  obtain ⟨hk0, hk1, hk2, hk3, hk4, hk5, hk6, hk7, hk8, hk9, hk10⟩ := HC0.cells
  clear hc1 hf1 HB1
  go_region_held3 (fun W => HeldC106 w.heap.size i v1 v2 v3 v4 v5 v6 v7 v8 v9 v10 w W ∧ W.cell? ⟨w.heap.size, 0, none⟩ = some (.int .i64 i) ∧ W.cell? ⟨w.heap.size, 1, none⟩ = some (.int .i64 v1) ∧ W.cell? ⟨w.heap.size, 2, none⟩ = some (.int .i64 v2) ∧ W.cell? ⟨w.heap.size, 3, none⟩ = some (.int .i64 v3) ∧ W.cell? ⟨w.heap.size, 4, none⟩ = some (.int .i64 v4) ∧ W.cell? ⟨w.heap.size, 5, none⟩ = some (.int .i64 v5) ∧ W.cell? ⟨w.heap.size, 6, none⟩ = some (.int .i64 v6) ∧ W.cell? ⟨w.heap.size, 7, none⟩ = some (.int .i64 v7) ∧ W.cell? ⟨w.heap.size, 8, none⟩ = some (.int .i64 v8) ∧ W.cell? ⟨w.heap.size, 9, none⟩ = some (.int .i64 v9) ∧ W.cell? ⟨w.heap.size, 10, none⟩ = some (.int .i64 v10)) (first | (exact ⟨HeldC106.drew HC0, HeldC106.cells (HeldC106.drew HC0)⟩) | (exact ⟨HeldC106.step (HeldC106.drew HC0) HB2.out, HeldC106.cells (HeldC106.step (HeldC106.drew HC0) HB2.out)⟩) | go_keep) (first | (go_at_call 144; refine (conf_Room.calls i v1 v2 v3 v4 v5 v6 v7 v8 v9 v10 _ _ rfl).mono ?_; rintro e w2 ⟨rfl, hb2⟩; have HB2 := Aside0.mk hb2; clear hb2))
  go_wp2
  go_ret
  exact ⟨rfl, (by rename_i hz_; exact hz_.1.below)⟩
def conf_Check.f (a0_0 : Int) (a0_1 : Int) (a0_2 : Int) (a0_3 : Int) (a0_4 : Int) (a0_5 : Int) (a0_6 : Int) (a0_7 : Int) (a0_8 : Int) (a0_9 : Int) (a0_10 : Int) : Option Int := some (conf_Check.v a0_0 a0_1 a0_2 a0_3 a0_4 a0_5 a0_6 a0_7 a0_8 a0_9 a0_10)
theorem conf_Check.calls (a0_0 : Int) (a0_1 : Int) (a0_2 : Int) (a0_3 : Int) (a0_4 : Int) (a0_5 : Int) (a0_6 : Int) (a0_7 : Int) (a0_8 : Int) (a0_9 : Int) (a0_10 : Int) (r : Int) (w : World) (h : conf_Check.f a0_0 a0_1 a0_2 a0_3 a0_4 a0_5 a0_6 a0_7 a0_8 a0_9 a0_10 = some r) :
    Calls Try.prog 106 #[.agg #[.int .i64 a0_0, .int .i64 a0_1, .int .i64 a0_2, .int .i64 a0_3, .int .i64 a0_4, .int .i64 a0_5, .int .i64 a0_6, .int .i64 a0_7, .int .i64 a0_8, .int .i64 a0_9, .int .i64 a0_10]] w fun e w' => e = .returned (.int .i64 r) ∧ Below w.heap.size w w' := by
  obtain rfl := Option.some.inj h
  cases t0 : (inB a0_0 0 1099511627776)
  · have e : conf_Check.v a0_0 a0_1 a0_2 a0_3 a0_4 a0_5 a0_6 a0_7 a0_8 a0_9 a0_10 = 1 := by unfold conf_Check.v conf_Check.ok; simp only [t0, Bool.false_and, Bool.true_and, Bool.and_false]; rfl
    rw [e]; exact conf_Check_f0 a0_0 a0_1 a0_2 a0_3 a0_4 a0_5 a0_6 a0_7 a0_8 a0_9 a0_10 w t0
  cases t1 : (inB a0_1 3 16)
  · have e : conf_Check.v a0_0 a0_1 a0_2 a0_3 a0_4 a0_5 a0_6 a0_7 a0_8 a0_9 a0_10 = 1 := by unfold conf_Check.v conf_Check.ok; simp only [t0, t1, Bool.false_and, Bool.true_and, Bool.and_false]; rfl
    rw [e]; exact conf_Check_f1 a0_0 a0_1 a0_2 a0_3 a0_4 a0_5 a0_6 a0_7 a0_8 a0_9 a0_10 w t0 t1
  cases t2 : (inB a0_2 1 64)
  · have e : conf_Check.v a0_0 a0_1 a0_2 a0_3 a0_4 a0_5 a0_6 a0_7 a0_8 a0_9 a0_10 = 1 := by unfold conf_Check.v conf_Check.ok; simp only [t0, t1, t2, Bool.false_and, Bool.true_and, Bool.and_false]; rfl
    rw [e]; exact conf_Check_f2 a0_0 a0_1 a0_2 a0_3 a0_4 a0_5 a0_6 a0_7 a0_8 a0_9 a0_10 w t0 t1 t2
  cases t3 : (inB a0_3 1 4096)
  · have e : conf_Check.v a0_0 a0_1 a0_2 a0_3 a0_4 a0_5 a0_6 a0_7 a0_8 a0_9 a0_10 = 1 := by unfold conf_Check.v conf_Check.ok; simp only [t0, t1, t2, t3, Bool.false_and, Bool.true_and, Bool.and_false]; rfl
    rw [e]; exact conf_Check_f3 a0_0 a0_1 a0_2 a0_3 a0_4 a0_5 a0_6 a0_7 a0_8 a0_9 a0_10 w t0 t1 t2 t3
  cases t4 : (inB a0_4 1 4096)
  · have e : conf_Check.v a0_0 a0_1 a0_2 a0_3 a0_4 a0_5 a0_6 a0_7 a0_8 a0_9 a0_10 = 1 := by unfold conf_Check.v conf_Check.ok; simp only [t0, t1, t2, t3, t4, Bool.false_and, Bool.true_and, Bool.and_false]; rfl
    rw [e]; exact conf_Check_f4 a0_0 a0_1 a0_2 a0_3 a0_4 a0_5 a0_6 a0_7 a0_8 a0_9 a0_10 w t0 t1 t2 t3 t4
  cases t5 : (a0_4 % a0_2 == 0)
  · have e : conf_Check.v a0_0 a0_1 a0_2 a0_3 a0_4 a0_5 a0_6 a0_7 a0_8 a0_9 a0_10 = 1 := by unfold conf_Check.v conf_Check.ok; simp only [t0, t1, t2, t3, t4, t5, Bool.false_and, Bool.true_and, Bool.and_false]; rfl
    rw [e]; exact conf_Check_f5 a0_0 a0_1 a0_2 a0_3 a0_4 a0_5 a0_6 a0_7 a0_8 a0_9 a0_10 w t0 t1 t2 t3 t4 t5
  cases t6 : (inB a0_5 1 64)
  · have e : conf_Check.v a0_0 a0_1 a0_2 a0_3 a0_4 a0_5 a0_6 a0_7 a0_8 a0_9 a0_10 = 1 := by unfold conf_Check.v conf_Check.ok; simp only [t0, t1, t2, t3, t4, t5, t6, Bool.false_and, Bool.true_and, Bool.and_false]; rfl
    rw [e]; exact conf_Check_f6 a0_0 a0_1 a0_2 a0_3 a0_4 a0_5 a0_6 a0_7 a0_8 a0_9 a0_10 w t0 t1 t2 t3 t4 t5 t6
  cases t7 : (inB a0_6 1 64)
  · have e : conf_Check.v a0_0 a0_1 a0_2 a0_3 a0_4 a0_5 a0_6 a0_7 a0_8 a0_9 a0_10 = 1 := by unfold conf_Check.v conf_Check.ok; simp only [t0, t1, t2, t3, t4, t5, t6, t7, Bool.false_and, Bool.true_and, Bool.and_false]; rfl
    rw [e]; exact conf_Check_f7 a0_0 a0_1 a0_2 a0_3 a0_4 a0_5 a0_6 a0_7 a0_8 a0_9 a0_10 w t0 t1 t2 t3 t4 t5 t6 t7
  cases t8 : (inB a0_7 3 64)
  · have e : conf_Check.v a0_0 a0_1 a0_2 a0_3 a0_4 a0_5 a0_6 a0_7 a0_8 a0_9 a0_10 = 1 := by unfold conf_Check.v conf_Check.ok; simp only [t0, t1, t2, t3, t4, t5, t6, t7, t8, Bool.false_and, Bool.true_and, Bool.and_false]; rfl
    rw [e]; exact conf_Check_f8 a0_0 a0_1 a0_2 a0_3 a0_4 a0_5 a0_6 a0_7 a0_8 a0_9 a0_10 w t0 t1 t2 t3 t4 t5 t6 t7 t8
  cases t9 : (decide (conf_All.v a0_1 a0_2 a0_3 a0_4 a0_5 a0_6 a0_7 a0_8 a0_9 a0_10 ≤ 64))
  · have e : conf_Check.v a0_0 a0_1 a0_2 a0_3 a0_4 a0_5 a0_6 a0_7 a0_8 a0_9 a0_10 = 1 := by unfold conf_Check.v conf_Check.ok; simp only [t0, t1, t2, t3, t4, t5, t6, t7, t8, t9, Bool.false_and, Bool.true_and, Bool.and_false]; rfl
    rw [e]; exact conf_Check_f9 a0_0 a0_1 a0_2 a0_3 a0_4 a0_5 a0_6 a0_7 a0_8 a0_9 a0_10 w t0 t1 t2 t3 t4 t5 t6 t7 t8 t9
  cases t10 : (inB a0_9 1 a0_5)
  · have e : conf_Check.v a0_0 a0_1 a0_2 a0_3 a0_4 a0_5 a0_6 a0_7 a0_8 a0_9 a0_10 = 1 := by unfold conf_Check.v conf_Check.ok; simp only [t0, t1, t2, t3, t4, t5, t6, t7, t8, t9, t10, Bool.false_and, Bool.true_and, Bool.and_false]; rfl
    rw [e]; exact conf_Check_f10 a0_0 a0_1 a0_2 a0_3 a0_4 a0_5 a0_6 a0_7 a0_8 a0_9 a0_10 w t0 t1 t2 t3 t4 t5 t6 t7 t8 t9 t10
  cases t11 : (inB a0_8 1 a0_9)
  · have e : conf_Check.v a0_0 a0_1 a0_2 a0_3 a0_4 a0_5 a0_6 a0_7 a0_8 a0_9 a0_10 = 1 := by unfold conf_Check.v conf_Check.ok; simp only [t0, t1, t2, t3, t4, t5, t6, t7, t8, t9, t10, t11, Bool.false_and, Bool.true_and, Bool.and_false]; rfl
    rw [e]; exact conf_Check_f11 a0_0 a0_1 a0_2 a0_3 a0_4 a0_5 a0_6 a0_7 a0_8 a0_9 a0_10 w t0 t1 t2 t3 t4 t5 t6 t7 t8 t9 t10 t11
  cases t12 : (inB a0_10 (a0_9 + a0_6 + a0_7) 64)
  · have e : conf_Check.v a0_0 a0_1 a0_2 a0_3 a0_4 a0_5 a0_6 a0_7 a0_8 a0_9 a0_10 = 1 := by unfold conf_Check.v conf_Check.ok; simp only [t0, t1, t2, t3, t4, t5, t6, t7, t8, t9, t10, t11, t12, Bool.false_and, Bool.true_and, Bool.and_false]; rfl
    rw [e]; exact conf_Check_f12 a0_0 a0_1 a0_2 a0_3 a0_4 a0_5 a0_6 a0_7 a0_8 a0_9 a0_10 w t0 t1 t2 t3 t4 t5 t6 t7 t8 t9 t10 t11 t12
  have e0 : conf_Check.ok a0_0 a0_1 a0_2 a0_3 a0_4 a0_5 a0_6 a0_7 a0_8 a0_9 a0_10 = true := by unfold conf_Check.ok; simp only [t0, t1, t2, t3, t4, t5, t6, t7, t8, t9, t10, t11, t12, Bool.and_self]
  by_cases q : conf_Room.v a0_1 a0_2 a0_3 a0_4 a0_5 a0_6 a0_7 a0_8 a0_9 a0_10 > a0_4
  · have e : conf_Check.v a0_0 a0_1 a0_2 a0_3 a0_4 a0_5 a0_6 a0_7 a0_8 a0_9 a0_10 = 17 := by unfold conf_Check.v; rw [if_pos e0, if_pos q]
    rw [e]; exact conf_Check_r a0_0 a0_1 a0_2 a0_3 a0_4 a0_5 a0_6 a0_7 a0_8 a0_9 a0_10 w t0 t1 t2 t3 t4 t5 t6 t7 t8 t9 t10 t11 t12 (decide_eq_true q)
  · have e : conf_Check.v a0_0 a0_1 a0_2 a0_3 a0_4 a0_5 a0_6 a0_7 a0_8 a0_9 a0_10 = 0 := by unfold conf_Check.v; rw [if_pos e0, if_neg q]
    rw [e]; exact conf_Check_y a0_0 a0_1 a0_2 a0_3 a0_4 a0_5 a0_6 a0_7 a0_8 a0_9 a0_10 w t0 t1 t2 t3 t4 t5 t6 t7 t8 t9 t10 t11 t12 (decide_eq_false q)

end Go.Proofs.Ythpggaglmdnncaa.M
