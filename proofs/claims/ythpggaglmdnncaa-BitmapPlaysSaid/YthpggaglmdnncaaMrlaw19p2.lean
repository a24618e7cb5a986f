-- Written by wip/tools/mine.py (a program of this session, over the kit's print and texts of its own).
import Derived.Test.YthpggaglmdnncaaM0
import Derived.Test.YthpggaglmdnncaaMbitmap
import Derived.Test.YthpggaglmdnncaaMrref19
import Derived.Test.YthpggaglmdnncaaMrlaw19
namespace Go.Proofs.Ythpggaglmdnncaa.M
open Go.RowKit Go.Proofs.YthpggaglmdnncaaW.PrintWords Go.Proofs.YthpggaglmdnncaaW.PrintLast Go.Proofs.YthpggaglmdnncaaW.PrintMore Go.Proofs.YthpggaglmdnncaaW.MyWords
attribute [local go_sem] max2_int min2_int max_two min_two max_three min_three max_four min_four   -- for this text's walks alone
set_option linter.unusedVariables false
set_option linter.unusedSimpArgs false

/-! ### revetmentlaw19_BitmapPlays: function 9 -/
mutual
def revetmentlaw19_BitmapPlays.l0 : Nat → Int → List (S102) → Int → Int → Option (Bool)
  | 0, _, _, _, _ => none
  | k + 1, x0, x1, x2, x7 => if x7 < (x1.length : Int) then (if 0 ≤ x7 then (if (((rd_T102 x1 x7).f2).length : Int) > 50 then ((revetmentlaw19_live.f k).bind fun t598 => (some t598)) else (revetmentlaw19_BitmapPlays.l0 k x0 x1 x2 (wrap64 (x7 + 1)))) else (none)) else ((revetmentlaw19_play.f k x0 x1).bind fun bt599 => (revetmentlaw19_BitmapPlays.l1 k x2 bt599.2.2 0 0 bt599.1 bt599.2.1))
def revetmentlaw19_BitmapPlays.l1 : Nat → Int → List Bool → Int → Int → List Int → Int → Option (Bool)
  | 0, _, _, _, _, _, _ => none
  | k + 1, x2, x9, x10, x11, x607000, x607001 => if x11 < (x9.length : Int) then (if 0 ≤ x11 then (if rdOf false x9 x11 = true then (revetmentlaw19_BitmapPlays.l1 k x2 x9 (wrap64 (x10 + 1)) (wrap64 (x11 + 1)) x607000 x607001) else (revetmentlaw19_BitmapPlays.l1 k x2 x9 x10 (wrap64 (x11 + 1)) x607000 x607001)) else (none)) else (if x2 ≥ 0 then (if x2 < (x9.length : Int) then (if 0 ≤ x2 then (revetmentlaw19_BitmapPlays.j2 k x2 x9 x10 (rdOf false x9 x2) x607000 x607001) else (none)) else (revetmentlaw19_BitmapPlays.j2 k x2 x9 x10 false x607000 x607001)) else (revetmentlaw19_BitmapPlays.j2 k x2 x9 x10 false x607000 x607001))
def revetmentlaw19_BitmapPlays.j2 : Nat → Int → List Bool → Int → Bool → List Int → Int → Option (Bool)
  | 0, _, _, _, _, _, _ => none
  | k + 1, x2, x9, x10, x12, x607000, x607001 => (bitmap_Len.f x607000 x607001).bind fun t609 => (if t609 = (x9.length : Int) then ((bitmap_Text.f k x607000 x607001).bind fun t610 => ((revetmentref19_Text.f k x9).bind fun t611 => (if t610.toList = t611.toList then ((bitmap_Count.f k x607000 x607001).bind fun t612 => (if t612 = x10 then ((bitmap_Get.f x607000 x607001 x2).bind fun t613 => (if (t613 == x12) = true then ((bitmap_First.f k x607000 x607001 true).bind fun t614 => ((revetmentref19_First.f k x9 true).bind fun t615 => (if t614 = t615 then ((bitmap_First.f k x607000 x607001 false).bind fun t616 => ((revetmentref19_First.f k x9 false).bind fun t617 => (if t616 = t617 then ((revetmentlaw19_live.f k).bind fun t618 => (some t618)) else (none)))) else (none)))) else (none))) else (none))) else (none)))) else (none))
end
def revetmentlaw19_BitmapPlays.f (k : Nat) (a0 : Int) (l1 : List (S102)) (a2 : Int) : Option (Bool) := if a0 > 300 then ((bitmap_New.f a0).bind fun bt587 => ((bitmap_Len.f bt587.1 bt587.2).bind fun t591 => ((revetmentref19_New.f a0).bind fun t592 => (if t591 = (t592.length : Int) then ((revetmentlaw19_live.f k).bind fun t595 => (some t595)) else (none))))) else (if (l1.length : Int) > 20 then ((revetmentlaw19_live.f k).bind fun t596 => (some t596)) else (revetmentlaw19_BitmapPlays.l0 k a0 l1 a2 0))
theorem revetmentlaw19_BitmapPlays.mono_l : ∀ k, (∀ y0 y1 y2 y3, LeO (revetmentlaw19_BitmapPlays.l0 k y0 y1 y2 y3) (revetmentlaw19_BitmapPlays.l0 (k + 1) y0 y1 y2 y3)) ∧ (∀ y0 y1 y2 y3 y4 y5, LeO (revetmentlaw19_BitmapPlays.l1 k y0 y1 y2 y3 y4 y5) (revetmentlaw19_BitmapPlays.l1 (k + 1) y0 y1 y2 y3 y4 y5)) ∧ (∀ y0 y1 y2 y3 y4 y5, LeO (revetmentlaw19_BitmapPlays.j2 k y0 y1 y2 y3 y4 y5) (revetmentlaw19_BitmapPlays.j2 (k + 1) y0 y1 y2 y3 y4 y5))
  | 0 => ⟨fun _ _ _ _ r h => by simp [revetmentlaw19_BitmapPlays.l0] at h, fun _ _ _ _ _ _ r h => by simp [revetmentlaw19_BitmapPlays.l1] at h, fun _ _ _ _ _ _ r h => by simp [revetmentlaw19_BitmapPlays.j2] at h⟩
  | k + 1 => by
    obtain ⟨ih0, ih1, ih2⟩ := revetmentlaw19_BitmapPlays.mono_l k
    refine ⟨?_, ?_, ?_⟩
    · intro y0 y1 y2 y3
      unfold revetmentlaw19_BitmapPlays.l0
      repeat' first
      | (with_reducible exact ih0 _ _ _ _)
      | (with_reducible exact ih1 _ _ _ _ _ _)
      | (with_reducible exact ih2 _ _ _ _ _ _)
      | (with_reducible exact bitmap_Count.mono _ _ _)
      | (with_reducible exact bitmap_First.mono _ _ _ _)
      | (with_reducible exact bitmap_Text.mono _ _ _)
      | (with_reducible exact revetmentlaw19_live.mono _)
      | (with_reducible exact revetmentlaw19_play.mono _ _ _)
      | (with_reducible exact revetmentref19_First.mono _ _ _)
      | (with_reducible exact revetmentref19_Text.mono _ _)
      | (with_reducible exact LeO.refl _)
      | (with_reducible exact LeO.none _)
      | (with_reducible refine LeO.ite ?_ ?_)
      | (with_reducible refine LeO.bind ?_ (fun _ => ?_))
      | exact ih0 _ _ _ _
      | exact ih1 _ _ _ _ _ _
      | exact ih2 _ _ _ _ _ _
      | exact bitmap_Count.mono _ _ _
      | exact bitmap_First.mono _ _ _ _
      | exact bitmap_Text.mono _ _ _
      | exact revetmentlaw19_live.mono _
      | exact revetmentlaw19_play.mono _ _ _
      | exact revetmentref19_First.mono _ _ _
      | exact revetmentref19_Text.mono _ _
      | exact LeO.none _
      | refine LeO.ite ?_ ?_
      | refine LeO.bind ?_ (fun _ => ?_)
    · intro y0 y1 y2 y3 y4 y5
      unfold revetmentlaw19_BitmapPlays.l1
      repeat' first
      | (with_reducible exact ih0 _ _ _ _)
      | (with_reducible exact ih1 _ _ _ _ _ _)
      | (with_reducible exact ih2 _ _ _ _ _ _)
      | (with_reducible exact bitmap_Count.mono _ _ _)
      | (with_reducible exact bitmap_First.mono _ _ _ _)
      | (with_reducible exact bitmap_Text.mono _ _ _)
      | (with_reducible exact revetmentlaw19_live.mono _)
      | (with_reducible exact revetmentlaw19_play.mono _ _ _)
      | (with_reducible exact revetmentref19_First.mono _ _ _)
      | (with_reducible exact revetmentref19_Text.mono _ _)
      | (with_reducible exact LeO.refl _)
      | (with_reducible exact LeO.none _)
      | (with_reducible refine LeO.ite ?_ ?_)
      | (with_reducible refine LeO.bind ?_ (fun _ => ?_))
      | exact ih0 _ _ _ _
      | exact ih1 _ _ _ _ _ _
      | exact ih2 _ _ _ _ _ _
      | exact bitmap_Count.mono _ _ _
      | exact bitmap_First.mono _ _ _ _
      | exact bitmap_Text.mono _ _ _
      | exact revetmentlaw19_live.mono _
      | exact revetmentlaw19_play.mono _ _ _
      | exact revetmentref19_First.mono _ _ _
      | exact revetmentref19_Text.mono _ _
      | exact LeO.none _
      | refine LeO.ite ?_ ?_
      | refine LeO.bind ?_ (fun _ => ?_)
    · intro y0 y1 y2 y3 y4 y5
      unfold revetmentlaw19_BitmapPlays.j2
      repeat' first
      | (with_reducible exact ih0 _ _ _ _)
      | (with_reducible exact ih1 _ _ _ _ _ _)
      | (with_reducible exact ih2 _ _ _ _ _ _)
      | (with_reducible exact bitmap_Count.mono _ _ _)
      | (with_reducible exact bitmap_First.mono _ _ _ _)
      | (with_reducible exact bitmap_Text.mono _ _ _)
      | (with_reducible exact revetmentlaw19_live.mono _)
      | (with_reducible exact revetmentlaw19_play.mono _ _ _)
      | (with_reducible exact revetmentref19_First.mono _ _ _)
      | (with_reducible exact revetmentref19_Text.mono _ _)
      | (with_reducible exact LeO.refl _)
      | (with_reducible exact LeO.none _)
      | (with_reducible refine LeO.ite ?_ ?_)
      | (with_reducible refine LeO.bind ?_ (fun _ => ?_))
      | exact ih0 _ _ _ _
      | exact ih1 _ _ _ _ _ _
      | exact ih2 _ _ _ _ _ _
      | exact bitmap_Count.mono _ _ _
      | exact bitmap_First.mono _ _ _ _
      | exact bitmap_Text.mono _ _ _
      | exact revetmentlaw19_live.mono _
      | exact revetmentlaw19_play.mono _ _ _
      | exact revetmentref19_First.mono _ _ _
      | exact revetmentref19_Text.mono _ _
      | exact LeO.none _
      | refine LeO.ite ?_ ?_
      | refine LeO.bind ?_ (fun _ => ?_)
theorem revetmentlaw19_BitmapPlays.mono : ∀ a0 a1 a2 k, LeO (revetmentlaw19_BitmapPlays.f k a0 a1 a2) (revetmentlaw19_BitmapPlays.f (k + 1) a0 a1 a2) := by
  intro a0 a1 a2 k
  obtain ⟨ih0, ih1, ih2⟩ := revetmentlaw19_BitmapPlays.mono_l k
  unfold revetmentlaw19_BitmapPlays.f
  repeat' first
      | (with_reducible exact ih0 _ _ _ _)
      | (with_reducible exact ih1 _ _ _ _ _ _)
      | (with_reducible exact ih2 _ _ _ _ _ _)
      | (with_reducible exact bitmap_Count.mono _ _ _)
      | (with_reducible exact bitmap_First.mono _ _ _ _)
      | (with_reducible exact bitmap_Text.mono _ _ _)
      | (with_reducible exact revetmentlaw19_live.mono _)
      | (with_reducible exact revetmentlaw19_play.mono _ _ _)
      | (with_reducible exact revetmentref19_First.mono _ _ _)
      | (with_reducible exact revetmentref19_Text.mono _ _)
      | (with_reducible exact LeO.refl _)
      | (with_reducible exact LeO.none _)
      | (with_reducible refine LeO.ite ?_ ?_)
      | (with_reducible refine LeO.bind ?_ (fun _ => ?_))
      | exact ih0 _ _ _ _
      | exact ih1 _ _ _ _ _ _
      | exact ih2 _ _ _ _ _ _
      | exact bitmap_Count.mono _ _ _
      | exact bitmap_First.mono _ _ _ _
      | exact bitmap_Text.mono _ _ _
      | exact revetmentlaw19_live.mono _
      | exact revetmentlaw19_play.mono _ _ _
      | exact revetmentref19_First.mono _ _ _
      | exact revetmentref19_Text.mono _ _
      | exact LeO.none _
      | refine LeO.ite ?_ ?_
      | refine LeO.bind ?_ (fun _ => ?_)
set_option maxHeartbeats 8000000 in
set_option maxRecDepth 100000 in
theorem revetmentlaw19_BitmapPlays.calls (k : Nat) (a0 : Int) (A1 : Option Addr) (c1 : Nat) (l1 : List (S102)) (a2 : Int) (r : Bool) (w : World) (hr1 : Kd.C k102 w A1 l1.length l1) (hc1 : l1.length ≤ c1) (h : revetmentlaw19_BitmapPlays.f k a0 l1 a2 = some r) :
    Calls Try.prog 9 #[.int .i64 a0, .slice A1 l1.length c1, .int .i64 a2] w fun e w' => e = .returned (.bool r) ∧ Below w.heap.size w w' := by
  have hu96 := Try.underlying96
  have HR1 := Aside0.mk hr1
  have HC1 := Aside0.mk hc1
  clear hr1 hc1
  have HB := Aside0.mk (Below.refl w.heap.size w)
  have H : (if a0 > 300 then ((bitmap_New.f a0).bind fun bt587 => ((bitmap_Len.f bt587.1 bt587.2).bind fun t591 => ((revetmentref19_New.f a0).bind fun t592 => (if t591 = (t592.length : Int) then ((revetmentlaw19_live.f k).bind fun t595 => (some t595)) else (none))))) else (if (l1.length : Int) > 20 then ((revetmentlaw19_live.f k).bind fun t596 => (some t596)) else (revetmentlaw19_BitmapPlays.l0 k a0 l1 a2 0))) = some r := h
  clear h
  by_cases c4 : a0 > 300
  · rw [if_pos c4] at H
    have c4b0 : decide (300 < a0) = true := decide_eq_true c4
    clear c4
    replace H := Option.bind_eq_some_iff.mp H
    obtain ⟨⟨t587, t590⟩, A50, H⟩ := H
    replace H : ((bitmap_Len.f t587 t590).bind fun t591 => ((revetmentref19_New.f a0).bind fun t592 => (if t591 = (t592.length : Int) then ((revetmentlaw19_live.f k).bind fun t595 => (some t595)) else (none)))) = some r := H
    have A5 := Aside0.mk A50
    clear A50
    replace H := Option.bind_eq_some_iff.mp H
    obtain ⟨t591, A60, H⟩ := H
    replace H : ((revetmentref19_New.f a0).bind fun t592 => (if t591 = (t592.length : Int) then ((revetmentlaw19_live.f k).bind fun t595 => (some t595)) else (none))) = some r := H
    have A6 := Aside0.mk A60
    clear A60
    replace H := Option.bind_eq_some_iff.mp H
    obtain ⟨t592, A70, H⟩ := H
    replace H : (if t591 = (t592.length : Int) then ((revetmentlaw19_live.f k).bind fun t595 => (some t595)) else (none)) = some r := H
    have A7 := Aside0.mk A70
    clear A70
    by_cases c8 : t591 = (t592.length : Int)
    · rw [if_pos c8] at H
      have c8b0 : (t591 == (t592.length : Int)) = true := beq_iff_eq.mpr c8
      have c8b1 : (t591 != (t592.length : Int)) = false := bne_eq_false_iff_eq.mpr c8
      clear c8
      replace H := Option.bind_eq_some_iff.mp H
      obtain ⟨t595, A90, H⟩ := H
      replace H : (some t595) = some r := H
      have A9 := Aside0.mk A90
      clear A90
      obtain rfl := Option.some.inj H
      go_enter Try.func9, Try.ntmps9
      go_wp2_with (first | ((with_reducible refine gate_callee (f := 58) rfl ?_); refine goesL_ (some 16) rfl rfl Try.func58 (by kernel_rfl) rfl #[.int .i64 a0] rfl (by (try simp only [List.map_toArray, List.map_cons, List.map_nil]); first | done | rfl | (simp only [List.length_drop, List.length_take]; rfl)) ?_; (with_reducible refine (bitmap_New.calls a0 t587 t590 _ A5.out).mono ?_); rintro e w10 ⟨v588, rfl, ho0, hb⟩; refine ⟨_, rfl, ?_⟩; have n0_ := Aside0.mk (Kd.R_lower ho0 (below_size (by repeat (first | (with_reducible first | exact HB.out | apply below_alloc | apply pw_below_drewN | apply below_drew1) | exact HB.out)))); have n1_ := Aside0.mk (below_step (by repeat (first | (with_reducible first | exact HB.out | apply below_alloc | apply pw_below_drewN | apply below_drew1) | exact HB.out)) hb); clear HB; have HO589 := n0_; have HB := n1_; clear n0_ n1_; (try clear hb); (try clear hb2); (try clear hk); (try clear hi); (try clear ho0); obtain ⟨Ao11, co11, eo11⟩ := Kd.R_slice HO589.out; subst eo11) | ((with_reducible refine gate_callee (f := 57) rfl ?_); refine goesL_ (some 17) rfl rfl Try.func57 (by kernel_rfl) rfl #[.agg #[.slice Ao11 t587.length co11, .int .i64 t590]] rfl (by (try simp only [List.map_toArray, List.map_cons, List.map_nil]); first | done | rfl | (simp only [List.length_drop, List.length_take]; rfl)) ?_; (with_reducible refine (bitmap_Len.calls _ _ t587 t590 t591 _ ?side1 ?side2 A6.out).mono ?_); (case side1 => repeat (first | exact (Kd.R_reads' HO589.out).2.2 | (with_reducible refine Kd.C_alloc ?_ _) | (with_reducible refine Kd.C_drewN ?_ _) | (with_reducible refine Kd.C_drew ?_))); (case side2 => exact (Kd.R_reads' HO589.out).2.1); rintro e w12 ⟨rfl, hb⟩; refine ⟨_, rfl, ?_⟩; have n0_ := Aside0.mk (Kd.R_below (by (with_reducible repeat (first | apply Kd.R_alloc | apply Kd.R_drewN | apply Kd.R_drew)); exact HO589.out) hb); have n1_ := Aside0.mk (below_step (by repeat (first | (with_reducible first | exact HB.out | apply below_alloc | apply pw_below_drewN | apply below_drew1) | exact HB.out)) hb); clear HO589; clear HB; have HO589 := n0_; have HB := n1_; clear n0_ n1_; (try clear hb); (try clear hb2); (try clear hk); (try clear hi)) | ((with_reducible refine gate_callee (f := 59) rfl ?_); refine goesL_ (some 19) rfl rfl Try.func59 (by kernel_rfl) rfl #[.int .i64 a0] rfl (by (try simp only [List.map_toArray, List.map_cons, List.map_nil]); first | done | rfl | (simp only [List.length_drop, List.length_take]; rfl)) ?_; (with_reducible refine (revetmentref19_New.calls a0 t592 _ A7.out).mono ?_); rintro e w13 ⟨v593, rfl, ho0, hb⟩; refine ⟨_, rfl, ?_⟩; have n0_ := Aside0.mk (Kd.R_below (by (with_reducible repeat (first | apply Kd.R_alloc | apply Kd.R_drewN | apply Kd.R_drew)); exact HO589.out) hb); have n1_ := Aside0.mk (Kd.R_lower ho0 (below_size (by repeat (first | (with_reducible first | exact HB.out | apply below_alloc | apply pw_below_drewN | apply below_drew1) | exact HB.out)))); have n2_ := Aside0.mk (below_step (by repeat (first | (with_reducible first | exact HB.out | apply below_alloc | apply pw_below_drewN | apply below_drew1) | exact HB.out)) hb); clear HO589; clear HB; have HO589 := n0_; have HO594 := n1_; have HB := n2_; clear n0_ n1_ n2_; (try clear hb); (try clear hb2); (try clear hk); (try clear hi); (try clear ho0); obtain ⟨Ao14, co14, eo14⟩ := Kd.R_slice HO594.out; subst eo14) | (go_at_call 60; (with_reducible refine (revetmentlaw19_live.calls k  t595 _ A9.out).mono ?_); rintro e w15 ⟨rfl, hb⟩; have n0_ := Aside0.mk (Kd.R_below (by (with_reducible repeat (first | apply Kd.R_alloc | apply Kd.R_drewN | apply Kd.R_drew)); exact HO589.out) hb); have n1_ := Aside0.mk (Kd.R_below (by (with_reducible repeat (first | apply Kd.R_alloc | apply Kd.R_drewN | apply Kd.R_drew)); exact HO594.out) hb); have n2_ := Aside0.mk (below_step (by repeat (first | (with_reducible first | exact HB.out | apply below_alloc | apply pw_below_drewN | apply below_drew1) | exact HB.out)) hb); clear HO589; clear HO594; clear HB; have HO589 := n0_; have HO594 := n1_; have HB := n2_; clear n0_ n1_ n2_; (try clear hb); (try clear hb2); (try clear hk); (try clear hi)))
      go_ret
      exact ⟨by first | rfl | (simp [errW_none, errW_some] <;> rfl) | (simp [*, errW_none, errW_some] <;> rfl), by repeat (first | (with_reducible first | exact HB.out | apply below_alloc | apply pw_below_drewN | apply below_drew1) | exact HB.out)⟩
    · rw [if_neg c8] at H
      exact absurd H (by simp)
  · rw [if_neg c4] at H
    have c4b0 : decide (300 < a0) = false := decide_eq_false c4
    clear c4
    by_cases c16 : (l1.length : Int) > 20
    · rw [if_pos c16] at H
      have c16b0 : decide (20 < (l1.length : Int)) = true := decide_eq_true c16
      have c16b1 : decide (20 < l1.length) = true := decide_eq_true (by omega)
      clear c16
      replace H := Option.bind_eq_some_iff.mp H
      obtain ⟨t596, A170, H⟩ := H
      replace H : (some t596) = some r := H
      have A17 := Aside0.mk A170
      clear A170
      obtain rfl := Option.some.inj H
      go_enter Try.func9, Try.ntmps9
      go_wp2_with (first | ((with_reducible refine gate_callee (f := 60) rfl ?_); refine goesL_ (some 28) rfl rfl Try.func60 (by kernel_rfl) rfl #[] rfl (by (try simp only [List.map_toArray, List.map_cons, List.map_nil]); first | done | rfl | (simp only [List.length_drop, List.length_take]; rfl)) ?_; (with_reducible refine (revetmentlaw19_live.calls k  t596 _ A17.out).mono ?_); rintro e w18 ⟨rfl, hb⟩; refine ⟨_, rfl, ?_⟩; have n0_ := Aside0.mk (below_step (by repeat (first | (with_reducible first | exact HB.out | apply below_alloc | apply pw_below_drewN | apply below_drew1) | exact HB.out)) hb); clear HB; have HB := n0_; clear n0_; (try clear hb); (try clear hb2); (try clear hk); (try clear hi)))
      go_ret
      exact ⟨by first | rfl | (simp [errW_none, errW_some] <;> rfl) | (simp [*, errW_none, errW_some] <;> rfl), by repeat (first | (with_reducible first | exact HB.out | apply below_alloc | apply pw_below_drewN | apply below_drew1) | exact HB.out)⟩
    · rw [if_neg c16] at H
      have c16b0 : decide (20 < (l1.length : Int)) = false := decide_eq_false c16
      have c16b1 : decide (20 < l1.length) = false := decide_eq_false (by omega)
      clear c16
      have H' := Aside0.mk H
      clear H
      go_enter Try.func9, Try.ntmps9
      go_wp2
      go_loopg [7] k (fun kq v7 w' => ∃ (x7_1 : Int), v7 = .int .i64 x7_1 ∧ Aside0 (revetmentlaw19_BitmapPlays.l0 kq a0 l1 a2 x7_1 = some r) ∧ Aside0 (kq ≤ k) ∧ Aside0 (Below w.heap.size w w'))
      case atStart => exact ⟨(0), (by first | rfl | (simp; done) | (simp [*]; done)), H', ⟨Nat.le_refl _⟩, ⟨by repeat (first | (with_reducible first | exact HB.out | apply below_alloc | apply pw_below_drewN | apply below_drew1) | exact HB.out)⟩⟩
      case round =>
        clear H'
        try clear c1
        try clear p2
        try clear c4
        try clear c4b0
        try clear c5
        try clear c6
        try clear c8
        try clear c8b0
        try clear c8b1
        try clear c9
        try clear c16
        try clear c16b0
        try clear c16b1
        obtain ⟨x7_1, rfl, HA, HK1, HB⟩ := hrel
        cases gk with
        | zero => exact absurd HA.out (by simp [revetmentlaw19_BitmapPlays.l0])
        | succ k1 =>
          have H := HA.out
          clear HA
          simp only [revetmentlaw19_BitmapPlays.l0] at H
          by_cases c19 : x7_1 < (l1.length : Int)
          · rw [if_pos c19] at H
            have c19b0 : decide (x7_1 < (l1.length : Int)) = true := decide_eq_true c19
            clear c19
            by_cases c20 : 0 ≤ x7_1
            · rw [if_pos c20] at H
              have c20b0 : decide (0 ≤ x7_1) = true := decide_eq_true c20
              clear c20
              by_cases c21 : (((rd_T102 l1 x7_1).f2).length : Int) > 50
              · rw [if_pos c21] at H
                have c21b0 : decide (50 < (((rd_T102 l1 x7_1).f2).length : Int)) = true := decide_eq_true c21
                have c21b1 : decide (50 < ((rd_T102 l1 x7_1).f2).length) = true := decide_eq_true (by omega)
                clear c21
                replace H := Option.bind_eq_some_iff.mp H
                obtain ⟨t598, A220, H⟩ := H
                replace H : (some t598) = some r := H
                have A22 := Aside0.mk A220
                clear A220
                obtain rfl := Option.some.inj H
                have p597 : 0 ≤ (x7_1 : Int) := of_decide_eq_true (by first | (with_reducible assumption) | assumption)
                have q597 : x7_1 < (l1.length : Int) := of_decide_eq_true (by first | (with_reducible assumption) | assumption)
                obtain ⟨ad597, A597_2, c597_2, e597, hx597_0, hx597_1, hx597_2, hx597_3, hx597_4, hl597_2, hi597_2⟩ := at_T102 HR1.out x7_1 p597 q597
                cases e597
                replace hx597_0 := (HB.out.cell (World.block_lt_of_cell? w _ hx597_0)).trans hx597_0
                replace hx597_1 := (HB.out.cell (World.block_lt_of_cell? w _ hx597_1)).trans hx597_1
                replace hx597_2 := (HB.out.cell (World.block_lt_of_cell? w _ hx597_2)).trans hx597_2
                replace hx597_3 := (HB.out.cell (World.block_lt_of_cell? w _ hx597_3)).trans hx597_3
                replace hx597_4 := (HB.out.cell (World.block_lt_of_cell? w _ hx597_4)).trans hx597_4
                have HR597_2 := Aside0.mk hi597_2
                have HC597_2 := Aside0.mk hl597_2
                clear hi597_2 hl597_2
                replace p597 := eq_true p597
                replace q597 := eq_true q597
                go_wp2_with (first | ((with_reducible refine gate_callee (f := 60) rfl ?_); refine goesL_ (some 42) rfl rfl Try.func60 (by kernel_rfl) rfl #[] rfl (by (try simp only [List.map_toArray, List.map_cons, List.map_nil]); first | done | rfl | (simp only [List.length_drop, List.length_take]; rfl)) ?_; (with_reducible refine (revetmentlaw19_live.calls k1  t598 _ A22.out).mono ?_); rintro e w23 ⟨rfl, hb⟩; refine ⟨_, rfl, ?_⟩; have n0_ := Aside0.mk (below_step (by repeat (first | (with_reducible first | exact HB.out | apply below_alloc | apply pw_below_drewN | apply below_drew1) | exact HB.out)) hb); clear HB; have HB := n0_; clear n0_; (try clear hb); (try clear hb2); (try clear hk); (try clear hi)))
                go_ret
                exact ⟨by first | rfl | (simp [errW_none, errW_some] <;> rfl) | (simp [*, errW_none, errW_some] <;> rfl), by repeat (first | (with_reducible first | exact HB.out | apply below_alloc | apply pw_below_drewN | apply below_drew1) | exact HB.out)⟩
              · rw [if_neg c21] at H
                have c21b0 : decide (50 < (((rd_T102 l1 x7_1).f2).length : Int)) = false := decide_eq_false c21
                have c21b1 : decide (50 < ((rd_T102 l1 x7_1).f2).length) = false := decide_eq_false (by omega)
                clear c21
                have H' := Aside0.mk H
                clear H
                have p597 : 0 ≤ (x7_1 : Int) := of_decide_eq_true (by first | (with_reducible assumption) | assumption)
                have q597 : x7_1 < (l1.length : Int) := of_decide_eq_true (by first | (with_reducible assumption) | assumption)
                obtain ⟨ad597, A597_2, c597_2, e597, hx597_0, hx597_1, hx597_2, hx597_3, hx597_4, hl597_2, hi597_2⟩ := at_T102 HR1.out x7_1 p597 q597
                cases e597
                replace hx597_0 := (HB.out.cell (World.block_lt_of_cell? w _ hx597_0)).trans hx597_0
                replace hx597_1 := (HB.out.cell (World.block_lt_of_cell? w _ hx597_1)).trans hx597_1
                replace hx597_2 := (HB.out.cell (World.block_lt_of_cell? w _ hx597_2)).trans hx597_2
                replace hx597_3 := (HB.out.cell (World.block_lt_of_cell? w _ hx597_3)).trans hx597_3
                replace hx597_4 := (HB.out.cell (World.block_lt_of_cell? w _ hx597_4)).trans hx597_4
                have HR597_2 := Aside0.mk hi597_2
                have HC597_2 := Aside0.mk hl597_2
                clear hi597_2 hl597_2
                replace p597 := eq_true p597
                replace q597 := eq_true q597
                go_wp2
                go_roundg k1
                case measure => have := HK1.out; omega
                case rel => exact ⟨(wrap64 (x7_1 + 1)), (by first | rfl | (simp; done) | (simp [*]; done)), H', ⟨by have := HK1.out; omega⟩, ⟨by repeat (first | (with_reducible first | exact HB.out | apply below_alloc | apply pw_below_drewN | apply below_drew1) | exact HB.out)⟩⟩
            · rw [if_neg c20] at H
              exact absurd H (by simp)
          · rw [if_neg c19] at H
            have c19b0 : decide (x7_1 < (l1.length : Int)) = false := decide_eq_false c19
            clear c19
            replace H := Option.bind_eq_some_iff.mp H
            obtain ⟨⟨t599, t602, t603⟩, A240, H⟩ := H
            replace H : (revetmentlaw19_BitmapPlays.l1 k1 a2 t603 0 0 t599 t602) = some r := H
            have A24 := Aside0.mk A240
            clear A240
            have H' := Aside0.mk H
            clear H
            go_wp2_with (first | ((with_reducible refine gate_callee (f := 61) rfl ?_); refine goesL_ (some 46) rfl rfl Try.func61 (by kernel_rfl) rfl #[.int .i64 a0, .slice A1 l1.length c1] rfl (by (try simp only [List.map_toArray, List.map_cons, List.map_nil]); first | done | rfl | (simp only [List.length_drop, List.length_take]; rfl)) ?_; (with_reducible refine (revetmentlaw19_play.calls k1 a0 _ _ l1 t599 t602 t603 _ ?side1 ?side2 A24.out).mono ?_); (case side1 => repeat (first | exact (Kd.C_below HR1.out HB.out) | (with_reducible refine Kd.C_alloc ?_ _) | (with_reducible refine Kd.C_drewN ?_ _) | (with_reducible refine Kd.C_drew ?_))); (case side2 => exact HC1.out); rintro e w25 ⟨v600, v604, rfl, ho0, ho1, hb⟩; refine ⟨_, rfl, ?_⟩; have n0_ := Aside0.mk (Kd.R_lower ho0 (below_size (by repeat (first | (with_reducible first | exact HB.out | apply below_alloc | apply pw_below_drewN | apply below_drew1) | exact HB.out)))); have n1_ := Aside0.mk (Kd.R_lower ho1 (below_size (by repeat (first | (with_reducible first | exact HB.out | apply below_alloc | apply pw_below_drewN | apply below_drew1) | exact HB.out)))); have n2_ := Aside0.mk (below_step (by repeat (first | (with_reducible first | exact HB.out | apply below_alloc | apply pw_below_drewN | apply below_drew1) | exact HB.out)) hb); clear HB; have HO601 := n0_; have HO605 := n1_; have HB := n2_; clear n0_ n1_ n2_; (try clear hb); (try clear hb2); (try clear hk); (try clear hi); (try clear ho0); (try clear ho1)) | ((with_reducible refine gate_dst (N := 8) rfl ?_); (try (refine gate_guard (by rfl) ?_; dsimp only)); refine box_event ?hg (N := 8) ?hd (cs := #[.slice none 0 0, .int .i64 0]) (t := 96) ?hr ?_; (case hd => rfl); (case hg => rfl); (case hr => first | (go_simp; done) | (go_simp; rfl)); intro gb606 hg w26 hbox hb; have n0_ := Aside0.mk (Kd.R_below (by (with_reducible repeat (first | apply Kd.R_alloc | apply Kd.R_drewN | apply Kd.R_drew)); exact HO601.out) hb); have n1_ := Aside0.mk (Kd.R_below (by (with_reducible repeat (first | apply Kd.R_alloc | apply Kd.R_drewN | apply Kd.R_drew)); exact HO605.out) hb); have n2_ := Aside0.mk (below_step (by repeat (first | (with_reducible first | exact HB.out | apply below_alloc | apply pw_below_drewN | apply below_drew1) | exact HB.out)) hb); have n3_ := Aside0.mk (hbox); have n4_ := Aside0.mk ((by rw [hg]; exact (below_size (by repeat (first | (with_reducible first | exact HB.out | apply below_alloc | apply pw_below_drewN | apply below_drew1) | exact HB.out))) : w.heap.size ≤ gb606)); have n5_ := Aside0.mk ((by rw [hg]; exact (below_size (by repeat (first | (with_reducible first | exact HB.out | apply below_alloc | apply pw_below_drewN | apply below_drew1) | exact HB.out))) : w.heap.size ≤ gb606)); clear HO601; clear HO605; clear HB; have HO601 := n0_; have HO605 := n1_; have HB := n2_; have BK606 := n3_; have GW606 := n4_; have GE606 := n5_; clear n0_ n1_ n2_ n3_ n4_ n5_; clear hb hbox hg; obtain ⟨Ao27, co27, eo27⟩ := Kd.R_slice HO601.out; subst eo27; have hcz28_0 : w26.cell? ⟨gb606, 0, none⟩ = some (.slice none 0 0) := (blk_cell BK606.out 0).trans rfl; have hcz28_1 : w26.cell? ⟨gb606, 1, none⟩ = some (.int .i64 0) := (blk_cell BK606.out 1).trans rfl; have hfz28_0 := blk_frozen BK606.out 0; have hfz28_1 := blk_frozen BK606.out 1))
            go_loopg [10, 11] k1 (fun kq v10 v11 w' => ∃ (x10_2 : Int) (x11_2 : Int), v10 = .int .i64 x10_2 ∧ v11 = .int .i64 x11_2 ∧ Aside0 (revetmentlaw19_BitmapPlays.l1 kq a2 t603 x10_2 x11_2 t599 t602 = some r) ∧ Aside0 (kq ≤ k1) ∧ Aside0 (Kd.R Kd.bool 4 w' w.heap.size (fun _ => True) v604 t603) ∧ Aside0 (Kd.R (Kd.int .u64) 162 w' w.heap.size (fun _ => True) (.slice Ao27 t599.length co27) t599) ∧ Aside0 (w'.heap[gb606]? = some (.cells #[(.slice Ao27 t599.length co27), .int .i64 t602] 96 (0, 0))) ∧ Aside0 (Below w.heap.size w w'))
            case atStart => exact ⟨(0), (0), (by first | rfl | (simp; done) | (simp [*]; done)), (by first | rfl | (simp; done) | (simp [*]; done)), H', ⟨Nat.le_refl _⟩, ⟨by (with_reducible repeat (first | apply Kd.R_alloc | apply Kd.R_drewN | apply Kd.R_drew)); exact Kd.R_mono (Kd.R_far (p := ⟨gb606, 1, none⟩) (Kd.R_far (p := ⟨gb606, 0, none⟩) (Kd.R_types HO605.out BK606.out (by decide)) (fun _ hk => hk.2) (.slice Ao27 t599.length co27)) (fun _ hk => hk.2) (.int .i64 t602)) (fun _ hk => trivial)⟩, ⟨by (with_reducible repeat (first | apply Kd.R_alloc | apply Kd.R_drewN | apply Kd.R_drew)); exact Kd.R_mono (Kd.R_far (p := ⟨gb606, 1, none⟩) (Kd.R_far (p := ⟨gb606, 0, none⟩) (Kd.R_types HO601.out BK606.out (by decide)) (fun _ hk => hk.2) (.slice Ao27 t599.length co27)) (fun _ hk => hk.2) (.int .i64 t602)) (fun _ hk => trivial)⟩, ⟨by (with_reducible repeat (first | refine blk_drewN ?_ _ | refine blk_drew ?_ | refine blk_alloc ?_ _)); refine blk_put (cs := #[.slice Ao27 t599.length co27, .int .i64 0]) ?_ 1 _ rfl; (with_reducible repeat (first | refine blk_drewN ?_ _ | refine blk_drew ?_ | refine blk_alloc ?_ _)); refine blk_put (cs := #[.slice none 0 0, .int .i64 0]) ?_ 0 _ rfl; (with_reducible repeat (first | refine blk_drewN ?_ _ | refine blk_drew ?_ | refine blk_alloc ?_ _)); exact BK606.out⟩, ⟨by repeat (first | (with_reducible first | exact HB.out | apply below_alloc | apply pw_below_drewN | apply below_drew1 | refine below_set ?_ GE606.out) | exact HB.out)⟩⟩
            case round =>
              clear H'
              try clear c1
              try clear c2
              try clear p2
              try clear c4
              try clear c4b0
              try clear c5
              try clear p5
              try clear q5
              try clear hx5
              try clear c6
              try clear p6
              try clear c8
              try clear c8b0
              try clear c8b1
              try clear c9
              try clear c16
              try clear c16b0
              try clear c16b1
              try clear c19
              try clear c19b0
              try clear c20
              try clear c20b0
              try clear c21
              try clear c21b0
              try clear c21b1
              try clear hcz28_0
              try clear hcz28_1
              try clear hfz28_0
              try clear hfz28_1
              try clear hx597_0
              try clear hx597_1
              try clear hx597_2
              try clear hx597_3
              try clear hx597_4
              try clear p2
              try clear p597
              try clear q597
              obtain ⟨x10_2, x11_2, rfl, rfl, HA, HK2, HO_9, HO_607000, BK606, HB⟩ := hrel
              cases gk with
              | zero => exact absurd HA.out (by simp [revetmentlaw19_BitmapPlays.l1])
              | succ k2 =>
                have H := HA.out
                clear HA
                simp only [revetmentlaw19_BitmapPlays.l1] at H
                by_cases c29 : x11_2 < (t603.length : Int)
                · rw [if_pos c29] at H
                  have c29b0 : decide (x11_2 < (t603.length : Int)) = true := decide_eq_true c29
                  clear c29
                  by_cases c30 : 0 ≤ x11_2
                  · rw [if_pos c30] at H
                    have c30b0 : decide (0 ≤ x11_2) = true := decide_eq_true c30
                    clear c30
                    obtain ⟨bq31, hbq31⟩ : ∃ b_ : Bool, b_ = (rdOf false t603 x11_2) := ⟨_, rfl⟩
                    replace H : (if bq31 = true then (revetmentlaw19_BitmapPlays.l1 k2 a2 t603 (wrap64 (x10_2 + 1)) (wrap64 (x11_2 + 1)) t599 t602) else (revetmentlaw19_BitmapPlays.l1 k2 a2 t603 x10_2 (wrap64 (x11_2 + 1)) t599 t602)) = some r := by rw [← hbq31] at H; exact H
                    have Nbq31 := Aside0.mk hbq31
                    clear hbq31
                    by_cases c32 : bq31 = true
                    · subst c32
                      have H1 : (revetmentlaw19_BitmapPlays.l1 k2 a2 t603 (wrap64 (x10_2 + 1)) (wrap64 (x11_2 + 1)) t599 t602) = some r := by rw [if_pos rfl] at H; exact H
                      clear H
                      have H := H1
                      clear H1
                      have H' := Aside0.mk H
                      clear H
                      obtain ⟨Ao33, co33, eo33⟩ := Kd.R_slice HO_9.out
                      subst eo33
                      have p607 : 0 ≤ (x11_2 : Int) := of_decide_eq_true (by first | (with_reducible assumption) | assumption)
                      have q607 : x11_2 < (t603.length : Int) := of_decide_eq_true (by first | (with_reducible assumption) | assumption)
                      obtain ⟨ad607, e607, hx607_0⟩ := Kd.at_bool (Kd.R_reads' HO_9.out).2.2 x11_2 p607 q607
                      (try rw [← Nbq31.out] at hx607_0)
                      cases e607
                      replace p607 := eq_true p607
                      replace q607 := eq_true q607
                      go_wp2
                      go_roundg k2
                      case measure => have := HK1.out; have := HK2.out; omega
                      case rel => exact ⟨(wrap64 (x10_2 + 1)), (wrap64 (x11_2 + 1)), (by first | rfl | (simp; done) | (simp [*]; done)), (by first | rfl | (simp; done) | (simp [*]; done)), H', ⟨by have := HK1.out; have := HK2.out; omega⟩, ⟨by (with_reducible repeat (first | apply Kd.R_alloc | apply Kd.R_drewN | apply Kd.R_drew)); exact HO_9.out⟩, ⟨by (with_reducible repeat (first | apply Kd.R_alloc | apply Kd.R_drewN | apply Kd.R_drew)); exact HO_607000.out⟩, ⟨by (with_reducible repeat (first | refine blk_drewN ?_ _ | refine blk_drew ?_ | refine blk_alloc ?_ _)); exact BK606.out⟩, ⟨by repeat (first | (with_reducible first | exact HB.out | apply below_alloc | apply pw_below_drewN | apply below_drew1 | refine below_set ?_ GE606.out) | exact HB.out)⟩⟩
                    · replace c32 := Bool.eq_false_iff.mpr c32
                      subst c32
                      have H1 : (revetmentlaw19_BitmapPlays.l1 k2 a2 t603 x10_2 (wrap64 (x11_2 + 1)) t599 t602) = some r := by rw [if_neg (show ¬ (false = true) by decide)] at H; exact H
                      clear H
                      have H := H1
                      clear H1
                      have H' := Aside0.mk H
                      clear H
                      obtain ⟨Ao34, co34, eo34⟩ := Kd.R_slice HO_9.out
                      subst eo34
                      have p607 : 0 ≤ (x11_2 : Int) := of_decide_eq_true (by first | (with_reducible assumption) | assumption)
                      have q607 : x11_2 < (t603.length : Int) := of_decide_eq_true (by first | (with_reducible assumption) | assumption)
                      obtain ⟨ad607, e607, hx607_0⟩ := Kd.at_bool (Kd.R_reads' HO_9.out).2.2 x11_2 p607 q607
                      (try rw [← Nbq31.out] at hx607_0)
                      cases e607
                      replace p607 := eq_true p607
                      replace q607 := eq_true q607
                      go_wp2
                      go_roundg k2
                      case measure => have := HK1.out; have := HK2.out; omega
                      case rel => exact ⟨(x10_2), (wrap64 (x11_2 + 1)), (by first | rfl | (simp; done) | (simp [*]; done)), (by first | rfl | (simp; done) | (simp [*]; done)), H', ⟨by have := HK1.out; have := HK2.out; omega⟩, ⟨by (with_reducible repeat (first | apply Kd.R_alloc | apply Kd.R_drewN | apply Kd.R_drew)); exact HO_9.out⟩, ⟨by (with_reducible repeat (first | apply Kd.R_alloc | apply Kd.R_drewN | apply Kd.R_drew)); exact HO_607000.out⟩, ⟨by (with_reducible repeat (first | refine blk_drewN ?_ _ | refine blk_drew ?_ | refine blk_alloc ?_ _)); exact BK606.out⟩, ⟨by repeat (first | (with_reducible first | exact HB.out | apply below_alloc | apply pw_below_drewN | apply below_drew1 | refine below_set ?_ GE606.out) | exact HB.out)⟩⟩
                  · rw [if_neg c30] at H
                    exact absurd H (by simp)
                · rw [if_neg c29] at H
                  have c29b0 : decide (x11_2 < (t603.length : Int)) = false := decide_eq_false c29
                  clear c29
                  have HC35 := Aside0.mk H
                  clear H
                  obtain ⟨Ao36, co36, eo36⟩ := Kd.R_slice HO_9.out
                  subst eo36
                  go_upto_region 17 with (fail)
                  go_cut [12] (fun v12 wc => ∃ (kq : Nat) (x12_34 : Bool), v12 = .bool x12_34 ∧ Aside0 (revetmentlaw19_BitmapPlays.j2 kq a2 t603 x10_2 x12_34 t599 t602 = some r) ∧ Aside0 (kq ≤ k2) ∧ Aside0 (Kd.R Kd.bool 4 wc w.heap.size (fun _ => True) (.slice Ao36 t603.length co36) t603) ∧ Aside0 (Kd.R (Kd.int .u64) 162 wc w.heap.size (fun _ => True) (.slice Ao27 t599.length co27) t599) ∧ Aside0 (wc.heap[gb606]? = some (.cells #[(.slice Ao27 t599.length co27), .int .i64 t602] 96 (0, 0))) ∧ Aside0 (Below w.heap.size w wc))
                  case first =>
                    have H := HC35.out
                    clear HC35
                    by_cases c37 : a2 ≥ 0
                    · rw [if_pos c37] at H
                      have c37b0 : decide (0 ≤ a2) = true := decide_eq_true c37
                      clear c37
                      (first | rw [c37b0] | (simp only [i64_w, i32_w]; rw [c37b0]) | skip)
                      by_cases c38 : a2 < (t603.length : Int)
                      · rw [if_pos c38] at H
                        have c38b0 : decide (a2 < (t603.length : Int)) = true := decide_eq_true c38
                        clear c38
                        by_cases c39 : 0 ≤ a2
                        · rw [if_pos c39] at H
                          have c39b0 : decide (0 ≤ a2) = true := decide_eq_true c39
                          clear c39
                          have H' := Aside0.mk H
                          clear H
                          have p608 : 0 ≤ (a2 : Int) := of_decide_eq_true (by first | (with_reducible assumption) | assumption)
                          have q608 : a2 < (t603.length : Int) := of_decide_eq_true (by first | (with_reducible assumption) | assumption)
                          obtain ⟨ad608, e608, hx608_0⟩ := Kd.at_bool (Kd.R_reads' HO_9.out).2.2 a2 p608 q608
                          cases e608
                          replace p608 := eq_true p608
                          replace q608 := eq_true q608
                          go_wp2
                          go_meet
                          case rel => exact ⟨_, (rdOf false t603 a2), (by first | rfl | (simp; done) | (simp [*]; done)), H', ⟨by have := HK1.out; have := HK2.out; first | omega | exact Nat.le_refl _⟩, ⟨by (with_reducible repeat (first | apply Kd.R_alloc | apply Kd.R_drewN | apply Kd.R_drew)); exact HO_9.out⟩, ⟨by (with_reducible repeat (first | apply Kd.R_alloc | apply Kd.R_drewN | apply Kd.R_drew)); exact HO_607000.out⟩, ⟨by (with_reducible repeat (first | refine blk_drewN ?_ _ | refine blk_drew ?_ | refine blk_alloc ?_ _)); exact BK606.out⟩, ⟨by repeat (first | (with_reducible first | exact HB.out | apply below_alloc | apply pw_below_drewN | apply below_drew1 | refine below_set ?_ GE606.out) | exact HB.out)⟩⟩
                        · rw [if_neg c39] at H
                          exact absurd H (by simp)
                      · rw [if_neg c38] at H
                        have c38b0 : decide (a2 < (t603.length : Int)) = false := decide_eq_false c38
                        clear c38
                        have H' := Aside0.mk H
                        clear H
                        go_wp2
                        go_meet
                        case rel => exact ⟨_, (false), (by first | rfl | (simp; done) | (simp [*]; done)), H', ⟨by have := HK1.out; have := HK2.out; first | omega | exact Nat.le_refl _⟩, ⟨by (with_reducible repeat (first | apply Kd.R_alloc | apply Kd.R_drewN | apply Kd.R_drew)); exact HO_9.out⟩, ⟨by (with_reducible repeat (first | apply Kd.R_alloc | apply Kd.R_drewN | apply Kd.R_drew)); exact HO_607000.out⟩, ⟨by (with_reducible repeat (first | refine blk_drewN ?_ _ | refine blk_drew ?_ | refine blk_alloc ?_ _)); exact BK606.out⟩, ⟨by repeat (first | (with_reducible first | exact HB.out | apply below_alloc | apply pw_below_drewN | apply below_drew1 | refine below_set ?_ GE606.out) | exact HB.out)⟩⟩
                    · rw [if_neg c37] at H
                      have c37b0 : decide (0 ≤ a2) = false := decide_eq_false c37
                      clear c37
                      (first | rw [c37b0] | (simp only [i64_w, i32_w]; rw [c37b0]) | skip)
                      have H' := Aside0.mk H
                      clear H
                      go_wp2
                      go_meet
                      case rel => exact ⟨_, (false), (by first | rfl | (simp; done) | (simp [*]; done)), H', ⟨by have := HK1.out; have := HK2.out; first | omega | exact Nat.le_refl _⟩, ⟨by (with_reducible repeat (first | apply Kd.R_alloc | apply Kd.R_drewN | apply Kd.R_drew)); exact HO_9.out⟩, ⟨by (with_reducible repeat (first | apply Kd.R_alloc | apply Kd.R_drewN | apply Kd.R_drew)); exact HO_607000.out⟩, ⟨by (with_reducible repeat (first | refine blk_drewN ?_ _ | refine blk_drew ?_ | refine blk_alloc ?_ _)); exact BK606.out⟩, ⟨by repeat (first | (with_reducible first | exact HB.out | apply below_alloc | apply pw_below_drewN | apply below_drew1 | refine below_set ?_ GE606.out) | exact HB.out)⟩⟩
                  case rest =>
                    clear HC35
                    try clear c1
                    try clear c2
                    try clear p2
                    try clear c3
                    try clear q3
                    try clear c4
                    try clear c4b0
                    try clear c5
                    try clear p5
                    try clear q5
                    try clear hx5
                    try clear c6
                    try clear p6
                    try clear q6
                    try clear hx6
                    try clear c8
                    try clear c8b0
                    try clear c8b1
                    try clear c9
                    try clear c16
                    try clear c16b0
                    try clear c16b1
                    try clear c19
                    try clear c19b0
                    try clear c20
                    try clear c20b0
                    try clear c21
                    try clear c21b0
                    try clear c21b1
                    try clear c29
                    try clear c29b0
                    try clear c30
                    try clear c30b0
                    try clear q31
                    try clear c32
                    try clear c37
                    try clear c37b0
                    try clear c38
                    try clear c38b0
                    try clear c39
                    try clear c39b0
                    try clear hcz28_0
                    try clear hcz28_1
                    try clear hfz28_0
                    try clear hfz28_1
                    try clear hx597_0
                    try clear hx597_1
                    try clear hx597_2
                    try clear hx597_3
                    try clear hx597_4
                    try clear hx607_0
                    try clear hx608_0
                    try clear p2
                    try clear p5
                    try clear p597
                    try clear p6
                    try clear p607
                    try clear p608
                    try clear q5
                    try clear q597
                    try clear q607
                    try clear q608
                    obtain ⟨kq, x12_34, rfl, HA, HJ34, HO_9, HO_607000, BK606, HB⟩ := hcut
                    cases kq with
                    | zero => exact absurd HA.out (by simp [revetmentlaw19_BitmapPlays.j2])
                    | succ kj34 =>
                      have H := HA.out
                      clear HA
                      simp only [revetmentlaw19_BitmapPlays.j2] at H
                      replace H := Option.bind_eq_some_iff.mp H
                      obtain ⟨t609, A400, H⟩ := H
                      replace H : (if t609 = (t603.length : Int) then ((bitmap_Text.f kj34 t599 t602).bind fun t610 => ((revetmentref19_Text.f kj34 t603).bind fun t611 => (if t610.toList = t611.toList then ((bitmap_Count.f kj34 t599 t602).bind fun t612 => (if t612 = x10_2 then ((bitmap_Get.f t599 t602 a2).bind fun t613 => (if (t613 == x12_34) = true then ((bitmap_First.f kj34 t599 t602 true).bind fun t614 => ((revetmentref19_First.f kj34 t603 true).bind fun t615 => (if t614 = t615 then ((bitmap_First.f kj34 t599 t602 false).bind fun t616 => ((revetmentref19_First.f kj34 t603 false).bind fun t617 => (if t616 = t617 then ((revetmentlaw19_live.f kj34).bind fun t618 => (some t618)) else (none)))) else (none)))) else (none))) else (none))) else (none)))) else (none)) = some r := H
                      have A40 := Aside0.mk A400
                      clear A400
                      by_cases c41 : t609 = (t603.length : Int)
                      · rw [if_pos c41] at H
                        have c41b0 : (t609 == (t603.length : Int)) = true := beq_iff_eq.mpr c41
                        have c41b1 : (t609 != (t603.length : Int)) = false := bne_eq_false_iff_eq.mpr c41
                        clear c41
                        replace H := Option.bind_eq_some_iff.mp H
                        obtain ⟨t610, A420, H⟩ := H
                        replace H : ((revetmentref19_Text.f kj34 t603).bind fun t611 => (if t610.toList = t611.toList then ((bitmap_Count.f kj34 t599 t602).bind fun t612 => (if t612 = x10_2 then ((bitmap_Get.f t599 t602 a2).bind fun t613 => (if (t613 == x12_34) = true then ((bitmap_First.f kj34 t599 t602 true).bind fun t614 => ((revetmentref19_First.f kj34 t603 true).bind fun t615 => (if t614 = t615 then ((bitmap_First.f kj34 t599 t602 false).bind fun t616 => ((revetmentref19_First.f kj34 t603 false).bind fun t617 => (if t616 = t617 then ((revetmentlaw19_live.f kj34).bind fun t618 => (some t618)) else (none)))) else (none)))) else (none))) else (none))) else (none))) = some r := H
                        have A42 := Aside0.mk A420
                        clear A420
                        replace H := Option.bind_eq_some_iff.mp H
                        obtain ⟨t611, A430, H⟩ := H
                        replace H : (if t610.toList = t611.toList then ((bitmap_Count.f kj34 t599 t602).bind fun t612 => (if t612 = x10_2 then ((bitmap_Get.f t599 t602 a2).bind fun t613 => (if (t613 == x12_34) = true then ((bitmap_First.f kj34 t599 t602 true).bind fun t614 => ((revetmentref19_First.f kj34 t603 true).bind fun t615 => (if t614 = t615 then ((bitmap_First.f kj34 t599 t602 false).bind fun t616 => ((revetmentref19_First.f kj34 t603 false).bind fun t617 => (if t616 = t617 then ((revetmentlaw19_live.f kj34).bind fun t618 => (some t618)) else (none)))) else (none)))) else (none))) else (none))) else (none)) = some r := H
                        have A43 := Aside0.mk A430
                        clear A430
                        by_cases c44 : t610.toList = t611.toList
                        · rw [if_pos c44] at H
                          have c44b0 : (t610.toList == t611.toList) = true := beq_iff_eq.mpr c44
                          have c44b1 : (t610.toList != t611.toList) = false := bne_eq_false_iff_eq.mpr c44
                          clear c44
                          replace H := Option.bind_eq_some_iff.mp H
                          obtain ⟨t612, A450, H⟩ := H
                          replace H : (if t612 = x10_2 then ((bitmap_Get.f t599 t602 a2).bind fun t613 => (if (t613 == x12_34) = true then ((bitmap_First.f kj34 t599 t602 true).bind fun t614 => ((revetmentref19_First.f kj34 t603 true).bind fun t615 => (if t614 = t615 then ((bitmap_First.f kj34 t599 t602 false).bind fun t616 => ((revetmentref19_First.f kj34 t603 false).bind fun t617 => (if t616 = t617 then ((revetmentlaw19_live.f kj34).bind fun t618 => (some t618)) else (none)))) else (none)))) else (none))) else (none)) = some r := H
                          have A45 := Aside0.mk A450
                          clear A450
                          by_cases c46 : t612 = x10_2
                          · rw [if_pos c46] at H
                            have c46b0 : (t612 == x10_2) = true := beq_iff_eq.mpr c46
                            have c46b1 : (t612 != x10_2) = false := bne_eq_false_iff_eq.mpr c46
                            clear c46
                            replace H := Option.bind_eq_some_iff.mp H
                            obtain ⟨t613, A470, H⟩ := H
                            replace H : (if (t613 == x12_34) = true then ((bitmap_First.f kj34 t599 t602 true).bind fun t614 => ((revetmentref19_First.f kj34 t603 true).bind fun t615 => (if t614 = t615 then ((bitmap_First.f kj34 t599 t602 false).bind fun t616 => ((revetmentref19_First.f kj34 t603 false).bind fun t617 => (if t616 = t617 then ((revetmentlaw19_live.f kj34).bind fun t618 => (some t618)) else (none)))) else (none)))) else (none)) = some r := H
                            have A47 := Aside0.mk A470
                            clear A470
                            by_cases c48 : (t613 == x12_34) = true
                            · rw [if_pos c48] at H
                              have c48b0 : (t613 == x12_34) = true := c48
                              (try (have c48b1 : decide (t613 = x12_34) = true := by simpa using c48))
                              (try (have c48b2 : (t613 == x12_34) = true := by simpa using c48))
                              clear c48
                              replace H := Option.bind_eq_some_iff.mp H
                              obtain ⟨t614, A490, H⟩ := H
                              replace H : ((revetmentref19_First.f kj34 t603 true).bind fun t615 => (if t614 = t615 then ((bitmap_First.f kj34 t599 t602 false).bind fun t616 => ((revetmentref19_First.f kj34 t603 false).bind fun t617 => (if t616 = t617 then ((revetmentlaw19_live.f kj34).bind fun t618 => (some t618)) else (none)))) else (none))) = some r := H
                              have A49 := Aside0.mk A490
                              clear A490
                              replace H := Option.bind_eq_some_iff.mp H
                              obtain ⟨t615, A500, H⟩ := H
                              replace H : (if t614 = t615 then ((bitmap_First.f kj34 t599 t602 false).bind fun t616 => ((revetmentref19_First.f kj34 t603 false).bind fun t617 => (if t616 = t617 then ((revetmentlaw19_live.f kj34).bind fun t618 => (some t618)) else (none)))) else (none)) = some r := H
                              have A50 := Aside0.mk A500
                              clear A500
                              by_cases c51 : t614 = t615
                              · rw [if_pos c51] at H
                                have c51b0 : (t614 == t615) = true := beq_iff_eq.mpr c51
                                have c51b1 : (t614 != t615) = false := bne_eq_false_iff_eq.mpr c51
                                clear c51
                                replace H := Option.bind_eq_some_iff.mp H
                                obtain ⟨t616, A520, H⟩ := H
                                replace H : ((revetmentref19_First.f kj34 t603 false).bind fun t617 => (if t616 = t617 then ((revetmentlaw19_live.f kj34).bind fun t618 => (some t618)) else (none))) = some r := H
                                have A52 := Aside0.mk A520
                                clear A520
                                replace H := Option.bind_eq_some_iff.mp H
                                obtain ⟨t617, A530, H⟩ := H
                                replace H : (if t616 = t617 then ((revetmentlaw19_live.f kj34).bind fun t618 => (some t618)) else (none)) = some r := H
                                have A53 := Aside0.mk A530
                                clear A530
                                by_cases c54 : t616 = t617
                                · rw [if_pos c54] at H
                                  have c54b0 : (t616 == t617) = true := beq_iff_eq.mpr c54
                                  have c54b1 : (t616 != t617) = false := bne_eq_false_iff_eq.mpr c54
                                  clear c54
                                  replace H := Option.bind_eq_some_iff.mp H
                                  obtain ⟨t618, A550, H⟩ := H
                                  replace H : (some t618) = some r := H
                                  have A55 := Aside0.mk A550
                                  clear A550
                                  obtain rfl := Option.some.inj H
                                  have hcz56_0 : wc.cell? ⟨gb606, 0, none⟩ = some (.slice Ao27 t599.length co27) := (blk_cell BK606.out 0).trans rfl
                                  have hcz56_1 : wc.cell? ⟨gb606, 1, none⟩ = some (.int .i64 t602) := (blk_cell BK606.out 1).trans rfl
                                  have hfz56_0 := blk_frozen BK606.out 0
                                  have hfz56_1 := blk_frozen BK606.out 1
                                  go_wp2_with (first | ((with_reducible refine gate_callee (f := 57) rfl ?_); refine goesL_ (some 76) rfl rfl Try.func57 (by kernel_rfl) rfl #[.agg #[.slice Ao27 t599.length co27, .int .i64 t602]] rfl (by (try simp only [List.map_toArray, List.map_cons, List.map_nil]); first | done | rfl | (simp only [List.length_drop, List.length_take]; rfl)) ?_; (with_reducible refine (bitmap_Len.calls _ _ t599 t602 t609 _ ?side1 ?side2 A40.out).mono ?_); (case side1 => repeat (first | exact (Kd.R_reads' HO_607000.out).2.2 | (with_reducible refine Kd.C_alloc ?_ _) | (with_reducible refine Kd.C_drewN ?_ _) | (with_reducible refine Kd.C_drew ?_))); (case side2 => exact (Kd.R_reads' HO_607000.out).2.1); rintro e w57 ⟨rfl, hb⟩; refine ⟨_, rfl, ?_⟩; have n0_ := Aside0.mk (Kd.R_below (by (with_reducible repeat (first | apply Kd.R_alloc | apply Kd.R_drewN | apply Kd.R_drew)); exact HO_9.out) hb); have n1_ := Aside0.mk (Kd.R_below (by (with_reducible repeat (first | apply Kd.R_alloc | apply Kd.R_drewN | apply Kd.R_drew)); exact HO_607000.out) hb); have n2_ := Aside0.mk (blk_below (g := gb606) (o := .cells #[.slice Ao27 t599.length co27, .int .i64 t602] 96 (0, 0)) (by (with_reducible repeat (first | refine blk_drewN ?_ _ | refine blk_drew ?_ | refine blk_alloc ?_ _)); exact BK606.out) hb); have n3_ := Aside0.mk (below_step (by repeat (first | (with_reducible first | exact HB.out | apply below_alloc | apply pw_below_drewN | apply below_drew1 | refine below_set ?_ GE606.out) | exact HB.out)) hb); clear HO_9; clear HO_607000; clear BK606; clear HB; have HO_9 := n0_; have HO_607000 := n1_; have BK606 := n2_; have HB := n3_; clear n0_ n1_ n2_ n3_; (try clear hb); (try clear hb2); (try clear hk); (try clear hi); have hcz58_0 : w57.cell? ⟨gb606, 0, none⟩ = some (.slice Ao27 t599.length co27) := (blk_cell BK606.out 0).trans rfl; have hcz58_1 : w57.cell? ⟨gb606, 1, none⟩ = some (.int .i64 t602) := (blk_cell BK606.out 1).trans rfl; have hfz58_0 := blk_frozen BK606.out 0; have hfz58_1 := blk_frozen BK606.out 1) | (go_at_call 62; (with_reducible refine (bitmap_Text.calls kj34 _ _ t599 t602 t610 _ ?side1 ?side2 A42.out).mono ?_); (case side1 => repeat (first | exact (Kd.R_reads' HO_607000.out).2.2 | (with_reducible refine Kd.C_alloc ?_ _) | (with_reducible refine Kd.C_drewN ?_ _) | (with_reducible refine Kd.C_drew ?_))); (case side2 => exact (Kd.R_reads' HO_607000.out).2.1); rintro e w59 ⟨rfl, hb⟩; have n0_ := Aside0.mk (Kd.R_below (by (with_reducible repeat (first | apply Kd.R_alloc | apply Kd.R_drewN | apply Kd.R_drew)); exact HO_9.out) hb); have n1_ := Aside0.mk (Kd.R_below (by (with_reducible repeat (first | apply Kd.R_alloc | apply Kd.R_drewN | apply Kd.R_drew)); exact HO_607000.out) hb); have n2_ := Aside0.mk (blk_below (g := gb606) (o := .cells #[.slice Ao27 t599.length co27, .int .i64 t602] 96 (0, 0)) (by (with_reducible repeat (first | refine blk_drewN ?_ _ | refine blk_drew ?_ | refine blk_alloc ?_ _)); exact BK606.out) hb); have n3_ := Aside0.mk (below_step (by repeat (first | (with_reducible first | exact HB.out | apply below_alloc | apply pw_below_drewN | apply below_drew1 | refine below_set ?_ GE606.out) | exact HB.out)) hb); clear HO_9; clear HO_607000; clear BK606; clear HB; have HO_9 := n0_; have HO_607000 := n1_; have BK606 := n2_; have HB := n3_; clear n0_ n1_ n2_ n3_; (try clear hb); (try clear hb2); (try clear hk); (try clear hi)) | (go_at_call 63; (with_reducible refine (revetmentref19_Text.calls kj34 _ _ t603 t611 _ ?side1 ?side2 A43.out).mono ?_); (case side1 => repeat (first | exact (Kd.R_reads' HO_9.out).2.2 | (with_reducible refine Kd.C_alloc ?_ _) | (with_reducible refine Kd.C_drewN ?_ _) | (with_reducible refine Kd.C_drew ?_))); (case side2 => exact (Kd.R_reads' HO_9.out).2.1); rintro e w' ⟨rfl, ⟨nd, rfl⟩⟩; have hcz60_0 : w59.cell? ⟨gb606, 0, none⟩ = some (.slice Ao27 t599.length co27) := (blk_cell BK606.out 0).trans rfl; have hcz60_1 : w59.cell? ⟨gb606, 1, none⟩ = some (.int .i64 t602) := (blk_cell BK606.out 1).trans rfl; have hfz60_0 := blk_frozen BK606.out 0; have hfz60_1 := blk_frozen BK606.out 1) | (go_at_call 64; (with_reducible refine (bitmap_Count.calls kj34 _ _ t599 t602 t612 _ ?side1 ?side2 A45.out).mono ?_); (case side1 => repeat (first | exact (Kd.R_reads' HO_607000.out).2.2 | (with_reducible refine Kd.C_alloc ?_ _) | (with_reducible refine Kd.C_drewN ?_ _) | (with_reducible refine Kd.C_drew ?_))); (case side2 => exact (Kd.R_reads' HO_607000.out).2.1); rintro e w61 ⟨rfl, hb⟩; have n0_ := Aside0.mk (Kd.R_below (by (with_reducible repeat (first | apply Kd.R_alloc | apply Kd.R_drewN | apply Kd.R_drew)); exact HO_9.out) hb); have n1_ := Aside0.mk (Kd.R_below (by (with_reducible repeat (first | apply Kd.R_alloc | apply Kd.R_drewN | apply Kd.R_drew)); exact HO_607000.out) hb); have n2_ := Aside0.mk (blk_below (g := gb606) (o := .cells #[.slice Ao27 t599.length co27, .int .i64 t602] 96 (0, 0)) (by (with_reducible repeat (first | refine blk_drewN ?_ _ | refine blk_drew ?_ | refine blk_alloc ?_ _)); exact BK606.out) hb); have n3_ := Aside0.mk (below_step (by repeat (first | (with_reducible first | exact HB.out | apply below_alloc | apply pw_below_drewN | apply below_drew1 | refine below_set ?_ GE606.out) | exact HB.out)) hb); clear HO_9; clear HO_607000; clear BK606; clear HB; have HO_9 := n0_; have HO_607000 := n1_; have BK606 := n2_; have HB := n3_; clear n0_ n1_ n2_ n3_; (try clear hb); (try clear hb2); (try clear hk); (try clear hi); have hcz62_0 : w61.cell? ⟨gb606, 0, none⟩ = some (.slice Ao27 t599.length co27) := (blk_cell BK606.out 0).trans rfl; have hcz62_1 : w61.cell? ⟨gb606, 1, none⟩ = some (.int .i64 t602) := (blk_cell BK606.out 1).trans rfl; have hfz62_0 := blk_frozen BK606.out 0; have hfz62_1 := blk_frozen BK606.out 1) | (go_at_call 65; (with_reducible refine (bitmap_Get.calls _ _ t599 t602 a2 t613 _ ?side1 ?side2 A47.out).mono ?_); (case side1 => repeat (first | exact (Kd.R_reads' HO_607000.out).2.2 | (with_reducible refine Kd.C_alloc ?_ _) | (with_reducible refine Kd.C_drewN ?_ _) | (with_reducible refine Kd.C_drew ?_))); (case side2 => exact (Kd.R_reads' HO_607000.out).2.1); rintro e w63 ⟨rfl, hb⟩; have n0_ := Aside0.mk (Kd.R_below (by (with_reducible repeat (first | apply Kd.R_alloc | apply Kd.R_drewN | apply Kd.R_drew)); exact HO_9.out) hb); have n1_ := Aside0.mk (Kd.R_below (by (with_reducible repeat (first | apply Kd.R_alloc | apply Kd.R_drewN | apply Kd.R_drew)); exact HO_607000.out) hb); have n2_ := Aside0.mk (blk_below (g := gb606) (o := .cells #[.slice Ao27 t599.length co27, .int .i64 t602] 96 (0, 0)) (by (with_reducible repeat (first | refine blk_drewN ?_ _ | refine blk_drew ?_ | refine blk_alloc ?_ _)); exact BK606.out) hb); have n3_ := Aside0.mk (below_step (by repeat (first | (with_reducible first | exact HB.out | apply below_alloc | apply pw_below_drewN | apply below_drew1 | refine below_set ?_ GE606.out) | exact HB.out)) hb); clear HO_9; clear HO_607000; clear BK606; clear HB; have HO_9 := n0_; have HO_607000 := n1_; have BK606 := n2_; have HB := n3_; clear n0_ n1_ n2_ n3_; (try clear hb); (try clear hb2); (try clear hk); (try clear hi); have hcz64_0 : w63.cell? ⟨gb606, 0, none⟩ = some (.slice Ao27 t599.length co27) := (blk_cell BK606.out 0).trans rfl; have hcz64_1 : w63.cell? ⟨gb606, 1, none⟩ = some (.int .i64 t602) := (blk_cell BK606.out 1).trans rfl; have hfz64_0 := blk_frozen BK606.out 0; have hfz64_1 := blk_frozen BK606.out 1) | (go_at_call 66; (with_reducible refine (bitmap_First.calls kj34 _ _ t599 t602 true t614 _ ?side1 ?side2 A49.out).mono ?_); (case side1 => repeat (first | exact (Kd.R_reads' HO_607000.out).2.2 | (with_reducible refine Kd.C_alloc ?_ _) | (with_reducible refine Kd.C_drewN ?_ _) | (with_reducible refine Kd.C_drew ?_))); (case side2 => exact (Kd.R_reads' HO_607000.out).2.1); rintro e w65 ⟨rfl, hb⟩; have n0_ := Aside0.mk (Kd.R_below (by (with_reducible repeat (first | apply Kd.R_alloc | apply Kd.R_drewN | apply Kd.R_drew)); exact HO_9.out) hb); have n1_ := Aside0.mk (Kd.R_below (by (with_reducible repeat (first | apply Kd.R_alloc | apply Kd.R_drewN | apply Kd.R_drew)); exact HO_607000.out) hb); have n2_ := Aside0.mk (blk_below (g := gb606) (o := .cells #[.slice Ao27 t599.length co27, .int .i64 t602] 96 (0, 0)) (by (with_reducible repeat (first | refine blk_drewN ?_ _ | refine blk_drew ?_ | refine blk_alloc ?_ _)); exact BK606.out) hb); have n3_ := Aside0.mk (below_step (by repeat (first | (with_reducible first | exact HB.out | apply below_alloc | apply pw_below_drewN | apply below_drew1 | refine below_set ?_ GE606.out) | exact HB.out)) hb); clear HO_9; clear HO_607000; clear BK606; clear HB; have HO_9 := n0_; have HO_607000 := n1_; have BK606 := n2_; have HB := n3_; clear n0_ n1_ n2_ n3_; (try clear hb); (try clear hb2); (try clear hk); (try clear hi)) | (go_at_call 67; (with_reducible refine (revetmentref19_First.calls kj34 _ _ t603 true t615 _ ?side1 ?side2 A50.out).mono ?_); (case side1 => repeat (first | exact (Kd.R_reads' HO_9.out).2.2 | (with_reducible refine Kd.C_alloc ?_ _) | (with_reducible refine Kd.C_drewN ?_ _) | (with_reducible refine Kd.C_drew ?_))); (case side2 => exact (Kd.R_reads' HO_9.out).2.1); rintro e w' ⟨rfl, ⟨nd, rfl⟩⟩; have hcz66_0 : w65.cell? ⟨gb606, 0, none⟩ = some (.slice Ao27 t599.length co27) := (blk_cell BK606.out 0).trans rfl; have hcz66_1 : w65.cell? ⟨gb606, 1, none⟩ = some (.int .i64 t602) := (blk_cell BK606.out 1).trans rfl; have hfz66_0 := blk_frozen BK606.out 0; have hfz66_1 := blk_frozen BK606.out 1) | (go_at_call 66; (with_reducible refine (bitmap_First.calls kj34 _ _ t599 t602 false t616 _ ?side1 ?side2 A52.out).mono ?_); (case side1 => repeat (first | exact (Kd.R_reads' HO_607000.out).2.2 | (with_reducible refine Kd.C_alloc ?_ _) | (with_reducible refine Kd.C_drewN ?_ _) | (with_reducible refine Kd.C_drew ?_))); (case side2 => exact (Kd.R_reads' HO_607000.out).2.1); rintro e w67 ⟨rfl, hb⟩; have n0_ := Aside0.mk (Kd.R_below (by (with_reducible repeat (first | apply Kd.R_alloc | apply Kd.R_drewN | apply Kd.R_drew)); exact HO_9.out) hb); have n1_ := Aside0.mk (Kd.R_below (by (with_reducible repeat (first | apply Kd.R_alloc | apply Kd.R_drewN | apply Kd.R_drew)); exact HO_607000.out) hb); have n2_ := Aside0.mk (blk_below (g := gb606) (o := .cells #[.slice Ao27 t599.length co27, .int .i64 t602] 96 (0, 0)) (by (with_reducible repeat (first | refine blk_drewN ?_ _ | refine blk_drew ?_ | refine blk_alloc ?_ _)); exact BK606.out) hb); have n3_ := Aside0.mk (below_step (by repeat (first | (with_reducible first | exact HB.out | apply below_alloc | apply pw_below_drewN | apply below_drew1 | refine below_set ?_ GE606.out) | exact HB.out)) hb); clear HO_9; clear HO_607000; clear BK606; clear HB; have HO_9 := n0_; have HO_607000 := n1_; have BK606 := n2_; have HB := n3_; clear n0_ n1_ n2_ n3_; (try clear hb); (try clear hb2); (try clear hk); (try clear hi)) | (go_at_call 67; (with_reducible refine (revetmentref19_First.calls kj34 _ _ t603 false t617 _ ?side1 ?side2 A53.out).mono ?_); (case side1 => repeat (first | exact (Kd.R_reads' HO_9.out).2.2 | (with_reducible refine Kd.C_alloc ?_ _) | (with_reducible refine Kd.C_drewN ?_ _) | (with_reducible refine Kd.C_drew ?_))); (case side2 => exact (Kd.R_reads' HO_9.out).2.1); rintro e w' ⟨rfl, ⟨nd, rfl⟩⟩) | (go_at_call 60; (with_reducible refine (revetmentlaw19_live.calls kj34  t618 _ A55.out).mono ?_); rintro e w68 ⟨rfl, hb⟩; have n0_ := Aside0.mk (Kd.R_below (by (with_reducible repeat (first | apply Kd.R_alloc | apply Kd.R_drewN | apply Kd.R_drew)); exact HO_9.out) hb); have n1_ := Aside0.mk (Kd.R_below (by (with_reducible repeat (first | apply Kd.R_alloc | apply Kd.R_drewN | apply Kd.R_drew)); exact HO_607000.out) hb); have n2_ := Aside0.mk (blk_below (g := gb606) (o := .cells #[.slice Ao27 t599.length co27, .int .i64 t602] 96 (0, 0)) (by (with_reducible repeat (first | refine blk_drewN ?_ _ | refine blk_drew ?_ | refine blk_alloc ?_ _)); exact BK606.out) hb); have n3_ := Aside0.mk (below_step (by repeat (first | (with_reducible first | exact HB.out | apply below_alloc | apply pw_below_drewN | apply below_drew1 | refine below_set ?_ GE606.out) | exact HB.out)) hb); clear HO_9; clear HO_607000; clear BK606; clear HB; have HO_9 := n0_; have HO_607000 := n1_; have BK606 := n2_; have HB := n3_; clear n0_ n1_ n2_ n3_; (try clear hb); (try clear hb2); (try clear hk); (try clear hi)))
                                  go_ret
                                  exact ⟨by first | rfl | (simp [errW_none, errW_some] <;> rfl) | (simp [*, errW_none, errW_some] <;> rfl), by repeat (first | (with_reducible first | exact HB.out | apply below_alloc | apply pw_below_drewN | apply below_drew1 | refine below_set ?_ GE606.out) | exact HB.out)⟩
                                · rw [if_neg c54] at H
                                  exact absurd H (by simp)
                              · rw [if_neg c51] at H
                                exact absurd H (by simp)
                            · rw [if_neg c48] at H
                              exact absurd H (by simp)
                          · rw [if_neg c46] at H
                            exact absurd H (by simp)
                        · rw [if_neg c44] at H
                          exact absurd H (by simp)
                      · rw [if_neg c41] at H
                        exact absurd H (by simp)

end Go.Proofs.Ythpggaglmdnncaa.M
