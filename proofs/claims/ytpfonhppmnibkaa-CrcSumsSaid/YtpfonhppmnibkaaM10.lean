-- Written by wip/tools/mine.py (a program of this session, over the kit's print and texts of its own).
import Derived.Test.YtpfonhppmnibkaaM0
import Derived.Test.YtpfonhppmnibkaaM4
namespace Go.Proofs.Ytpfonhppmnibkaa.M
open Go.RowKit Go.Proofs.YtpfonhppmnibkaaW.PrintWords Go.Proofs.YtpfonhppmnibkaaW.PrintLast Go.Proofs.YtpfonhppmnibkaaW.PrintMore Go.Proofs.YtpfonhppmnibkaaW.MyWords
attribute [local go_sem] max2_int min2_int max_two min_two max_three min_three max_four min_four   -- for this text's walks alone
set_option linter.unusedVariables false
set_option linter.unusedSimpArgs false

/-! ### revetmentlaw02_live: function 15 -/
def revetmentlaw02_live.f (k : Nat) : Option Bool := (crc_Of.f k (([49, 50, 51, 52, 53, 54, 55, 56, 57] : List Int))).bind fun t111 => (some (t111 == 3808858755))
theorem revetmentlaw02_live.mono : ∀ k, LeO (revetmentlaw02_live.f k) (revetmentlaw02_live.f (k + 1)) := by
  intro k
  unfold revetmentlaw02_live.f
  exact LeO.bind (crc_Of.mono _ _) (fun _ => LeO.refl _)
set_option maxHeartbeats 400000 in
set_option maxRecDepth 100000 in
theorem revetmentlaw02_live.calls (k : Nat) (r : Bool) (w : World) (h : revetmentlaw02_live.f k = some r) :
    Calls Try.prog 15 #[] w fun e w' => e = .returned (.bool r) ∧ Below w.heap.size w w' := by
  obtain ⟨t, ht, H⟩ := Option.bind_eq_some_iff.mp h
  obtain rfl := Option.some.inj H
  clear h H
  have A1 := Aside0.mk ht
  clear ht
  have kc := fun (w : World) (C : Array Value) (n c : Nat) => Lib.run_convert_bytes_const (P := Try.prog) w 22 5 C n c Try.underlying22 Try.underlying5
  go_enter Try.func15, Try.ntmps15
  go_wp2_with (fail)
  refine (crc_Of.calls k (fun k_ => k_ < (w.alloc (.cells (([49, 50, 51, 52, 53, 54, 55, 56, 57] : List Int).map (Value.int .u8)).toArray 5 (9, 10))).heap.size) (some ⟨w.heap.size, 0, none⟩) 9 [49, 50, 51, 52, 53, 54, 55, 56, 57] t _ (Kd.V_mk (by decide) (Kd.C_F (Kd.heap_int .u8) (my_C_new w _ 5 (9, 10) [49, 50, 51, 52, 53, 54, 55, 56, 57] rfl (by decide)))) A1.out).mono ?_
  rintro e w1 ⟨rfl, hb⟩
  have HB := Aside0.mk (((Below.refl w.heap.size w).alloc (Nat.le_refl _) _).trans (hb.mono (by simp)))
  clear hb kc
  go_wp2
  go_ret
  exact ⟨rfl, (by repeat (first | (with_reducible first | exact HB.out | apply below_alloc | apply pw_below_drewN | apply below_drew1) | exact HB.out))⟩


end Go.Proofs.Ytpfonhppmnibkaa.M
