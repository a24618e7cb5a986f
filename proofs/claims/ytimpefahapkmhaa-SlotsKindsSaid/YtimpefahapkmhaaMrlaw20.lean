-- Written by wip/tools/mine.py (a program of this session, over the kit's print and texts of its own).
import Derived.Test.YtimpefahapkmhaaM0
import Derived.Test.YtimpefahapkmhaaMconfp2
import Derived.Test.YtimpefahapkmhaaMslots
namespace Go.Proofs.Ytimpefahapkmhaa.M
open Go.RowKit Go.Proofs.YtimpefahapkmhaaW.PrintWords Go.Proofs.YtimpefahapkmhaaW.PrintLast Go.Proofs.YtimpefahapkmhaaW.PrintMore Go.Proofs.YtimpefahapkmhaaW.MyWords
attribute [local go_sem] max2_int min2_int max_two min_two max_three min_three max_four min_four   -- for this text's walks alone
set_option linter.unusedVariables false
set_option linter.unusedSimpArgs false

/-! ### revetmentlaw20_live: function 69 -/
def revetmentlaw20_live.f  : Option (Bool) := (conf_Plain.f).bind fun bt589 => ((slots_Slot.f bt589.1 bt589.2.1 bt589.2.2.1 bt589.2.2.2.1 bt589.2.2.2.2.1 bt589.2.2.2.2.2.1 bt589.2.2.2.2.2.2.1 bt589.2.2.2.2.2.2.2.1 bt589.2.2.2.2.2.2.2.2.1 bt589.2.2.2.2.2.2.2.2.2.1 bt589.2.2.2.2.2.2.2.2.2.2 0).bind fun bt600 => (if bt600.1 = 3 then (some bt600.2) else (some false)))
set_option maxHeartbeats 8000000 in
set_option maxRecDepth 100000 in
theorem revetmentlaw20_live.calls  (r : Bool) (w : World) (h : revetmentlaw20_live.f  = some r) :
    Calls Try.prog 69 #[] w fun e w' => e = .returned (.bool r) ∧ Below w.heap.size w w' := by
  have HB := Aside0.mk (Below.refl w.heap.size w)
  have H : ((conf_Plain.f).bind fun bt589 => ((slots_Slot.f bt589.1 bt589.2.1 bt589.2.2.1 bt589.2.2.2.1 bt589.2.2.2.2.1 bt589.2.2.2.2.2.1 bt589.2.2.2.2.2.2.1 bt589.2.2.2.2.2.2.2.1 bt589.2.2.2.2.2.2.2.2.1 bt589.2.2.2.2.2.2.2.2.2.1 bt589.2.2.2.2.2.2.2.2.2.2 0).bind fun bt600 => (if bt600.1 = 3 then (some bt600.2) else (some false)))) = some r := h
  clear h
  replace H := Option.bind_eq_some_iff.mp H
  obtain ⟨⟨t589, t590, t591, t592, t593, t594, t595, t596, t597, t598, t599⟩, A10, H⟩ := H
  replace H : ((slots_Slot.f t589 t590 t591 t592 t593 t594 t595 t596 t597 t598 t599 0).bind fun bt600 => (if bt600.1 = 3 then (some bt600.2) else (some false))) = some r := H
  have A1 := Aside0.mk A10
  clear A10
  replace H := Option.bind_eq_some_iff.mp H
  obtain ⟨⟨t600, t601⟩, A20, H⟩ := H
  replace H : (if t600 = 3 then (some t601) else (some false)) = some r := H
  have A2 := Aside0.mk A20
  clear A20
  by_cases c3 : t600 = 3
  · rw [if_pos c3] at H
    have c3b0 : (t600 == 3) = true := beq_iff_eq.mpr c3
    have c3b1 : (t600 != 3) = false := bne_eq_false_iff_eq.mpr c3
    clear c3
    obtain rfl := Option.some.inj H
    go_enter Try.func69, Try.ntmps69
    go_wp2_with (first | ((with_reducible refine gate_callee (f := 93) rfl ?_); refine goesL_ (some 4) rfl rfl Try.func93 (by kernel_rfl) rfl #[] rfl (by (try simp only [List.map_toArray, List.map_cons, List.map_nil]); first | done | rfl | (simp only [List.length_drop, List.length_take]; rfl)) ?_; (with_reducible refine (conf_Plain.calls  t589 t590 t591 t592 t593 t594 t595 t596 t597 t598 t599 _ A1.out).mono ?_); rintro e w4 ⟨rfl, hb⟩; refine ⟨_, rfl, ?_⟩; have n0_ := Aside0.mk (below_step (by repeat (first | (with_reducible first | exact HB.out | apply below_alloc | apply pw_below_drewN | apply below_drew1) | exact HB.out)) hb); clear HB; have HB := n0_; clear n0_; (try clear hb); (try clear hb2); (try clear hk); (try clear hi)) | ((with_reducible refine gate_callee (f := 68) rfl ?_); refine goesL_ (some 5) rfl rfl Try.func68 (by kernel_rfl) rfl #[.agg #[.int .i64 t589, .int .i64 t590, .int .i64 t591, .int .i64 t592, .int .i64 t593, .int .i64 t594, .int .i64 t595, .int .i64 t596, .int .i64 t597, .int .i64 t598, .int .i64 t599], .int .i64 0] rfl (by (try simp only [List.map_toArray, List.map_cons, List.map_nil]); first | done | rfl | (simp only [List.length_drop, List.length_take]; rfl)) ?_; (with_reducible refine (slots_Slot.calls t589 t590 t591 t592 t593 t594 t595 t596 t597 t598 t599 0 t600 t601 _ A2.out).mono ?_); rintro e w5 ⟨rfl, hb⟩; refine ⟨_, rfl, ?_⟩; have n0_ := Aside0.mk (below_step (by repeat (first | (with_reducible first | exact HB.out | apply below_alloc | apply pw_below_drewN | apply below_drew1) | exact HB.out)) hb); clear HB; have HB := n0_; clear n0_; (try clear hb); (try clear hb2); (try clear hk); (try clear hi)))
    go_ret
    exact ⟨by first | rfl | (simp [errW_none, errW_some] <;> rfl) | (simp [*, errW_none, errW_some] <;> rfl), by repeat (first | (with_reducible first | exact HB.out | apply below_alloc | apply pw_below_drewN | apply below_drew1) | exact HB.out)⟩
  · rw [if_neg c3] at H
    have c3b0 : (t600 == 3) = false := beq_eq_false_iff_ne.mpr c3
    have c3b1 : (t600 != 3) = true := bne_iff_ne.mpr c3
    obtain rfl := Option.some.inj H
    go_enter Try.func69, Try.ntmps69
    go_wp2_with (first | ((with_reducible refine gate_callee (f := 93) rfl ?_); refine goesL_ (some 4) rfl rfl Try.func93 (by kernel_rfl) rfl #[] rfl (by (try simp only [List.map_toArray, List.map_cons, List.map_nil]); first | done | rfl | (simp only [List.length_drop, List.length_take]; rfl)) ?_; (with_reducible refine (conf_Plain.calls  t589 t590 t591 t592 t593 t594 t595 t596 t597 t598 t599 _ A1.out).mono ?_); rintro e w6 ⟨rfl, hb⟩; refine ⟨_, rfl, ?_⟩; have n0_ := Aside0.mk (below_step (by repeat (first | (with_reducible first | exact HB.out | apply below_alloc | apply pw_below_drewN | apply below_drew1) | exact HB.out)) hb); clear HB; have HB := n0_; clear n0_; (try clear hb); (try clear hb2); (try clear hk); (try clear hi)) | ((with_reducible refine gate_callee (f := 68) rfl ?_); refine goesL_ (some 5) rfl rfl Try.func68 (by kernel_rfl) rfl #[.agg #[.int .i64 t589, .int .i64 t590, .int .i64 t591, .int .i64 t592, .int .i64 t593, .int .i64 t594, .int .i64 t595, .int .i64 t596, .int .i64 t597, .int .i64 t598, .int .i64 t599], .int .i64 0] rfl (by (try simp only [List.map_toArray, List.map_cons, List.map_nil]); first | done | rfl | (simp only [List.length_drop, List.length_take]; rfl)) ?_; (with_reducible refine (slots_Slot.calls t589 t590 t591 t592 t593 t594 t595 t596 t597 t598 t599 0 t600 t601 _ A2.out).mono ?_); rintro e w7 ⟨rfl, hb⟩; refine ⟨_, rfl, ?_⟩; have n0_ := Aside0.mk (below_step (by repeat (first | (with_reducible first | exact HB.out | apply below_alloc | apply pw_below_drewN | apply below_drew1) | exact HB.out)) hb); clear HB; have HB := n0_; clear n0_; (try clear hb); (try clear hb2); (try clear hk); (try clear hi)))
    go_ret
    exact ⟨by first | rfl | (simp [errW_none, errW_some] <;> rfl) | (simp [*, errW_none, errW_some] <;> rfl), by repeat (first | (with_reducible first | exact HB.out | apply below_alloc | apply pw_below_drewN | apply below_drew1) | exact HB.out)⟩

end Go.Proofs.Ytimpefahapkmhaa.M
