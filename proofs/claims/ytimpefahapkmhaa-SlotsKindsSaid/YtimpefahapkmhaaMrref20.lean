-- Written by wip/tools/mine.py (a program of this session, over the kit's print and texts of its own).
import Derived.Test.YtimpefahapkmhaaM0
import Derived.Test.YtimpefahapkmhaaMrref07
namespace Go.Proofs.Ytimpefahapkmhaa.M
open Go.RowKit Go.Proofs.YtimpefahapkmhaaW.PrintWords Go.Proofs.YtimpefahapkmhaaW.PrintLast Go.Proofs.YtimpefahapkmhaaW.PrintMore Go.Proofs.YtimpefahapkmhaaW.MyWords
attribute [local go_sem] max2_int min2_int max_two min_two max_three min_three max_four min_four   -- for this text's walks alone
set_option linter.unusedVariables false
set_option linter.unusedSimpArgs false

/-! ### revetmentref20_Kind: function 66 -/
def revetmentref20_Kind.j0 : Nat → Int → Bool → Int → Int → Int → Int → Int → Int → Int → Int → Int → Int → Int → Option (Int × Bool × Bool)
  | 0, _, _, _, _, _, _, _, _, _, _, _, _, _ => none
  | k + 1, x1, x25, x583000, x583001, x583002, x583003, x583004, x583005, x583006, x583007, x583008, x583009, x583010 => if x25 = true then (some (0, false, false)) else (if x1 < x583007 then (some (x1, true, true)) else (some (wrap64 (x1 - x583007), false, true)))
def revetmentref20_Kind.f (k : Nat) (a0_0 : Int) (a0_1 : Int) (a0_2 : Int) (a0_3 : Int) (a0_4 : Int) (a0_5 : Int) (a0_6 : Int) (a0_7 : Int) (a0_8 : Int) (a0_9 : Int) (a0_10 : Int) (a1 : Int) : Option (Int × Bool × Bool) := (revetmentref07_Check.f k a0_0 a0_1 a0_2 a0_3 a0_4 a0_5 a0_6 a0_7 a0_8 a0_9 a0_10).bind fun t583 => (if t583 = 0 then (if a1 < 0 then (revetmentref20_Kind.j0 k a1 true a0_0 a0_1 a0_2 a0_3 a0_4 a0_5 a0_6 a0_7 a0_8 a0_9 a0_10) else (revetmentref20_Kind.j0 k a1 (decide (a1 ≥ (wrap64 ((wrap64 (a0_7 + a0_5)) + a0_6)))) a0_0 a0_1 a0_2 a0_3 a0_4 a0_5 a0_6 a0_7 a0_8 a0_9 a0_10)) else (revetmentref20_Kind.j0 k a1 true a0_0 a0_1 a0_2 a0_3 a0_4 a0_5 a0_6 a0_7 a0_8 a0_9 a0_10))
theorem revetmentref20_Kind.mono_l : ∀ k, (∀ y0 y1 y2 y3 y4 y5 y6 y7 y8 y9 y10 y11 y12, LeO (revetmentref20_Kind.j0 k y0 y1 y2 y3 y4 y5 y6 y7 y8 y9 y10 y11 y12) (revetmentref20_Kind.j0 (k + 1) y0 y1 y2 y3 y4 y5 y6 y7 y8 y9 y10 y11 y12))
  | 0 => fun _ _ _ _ _ _ _ _ _ _ _ _ _ r h => by simp [revetmentref20_Kind.j0] at h
  | k + 1 => by
    have ih0 := revetmentref20_Kind.mono_l k
    · intro y0 y1 y2 y3 y4 y5 y6 y7 y8 y9 y10 y11 y12
      unfold revetmentref20_Kind.j0
      repeat' first
      | (with_reducible exact ih0 _ _ _ _ _ _ _ _ _ _ _ _ _)
      | (with_reducible exact revetmentref07_Check.mono _ _ _ _ _ _ _ _ _ _ _ _)
      | (with_reducible exact LeO.refl _)
      | (with_reducible exact LeO.none _)
      | (with_reducible refine LeO.ite ?_ ?_)
      | (with_reducible refine LeO.bind ?_ (fun _ => ?_))
      | exact ih0 _ _ _ _ _ _ _ _ _ _ _ _ _
      | exact revetmentref07_Check.mono _ _ _ _ _ _ _ _ _ _ _ _
      | exact LeO.none _
      | refine LeO.ite ?_ ?_
      | refine LeO.bind ?_ (fun _ => ?_)
theorem revetmentref20_Kind.mono : ∀ a0 a1 a2 a3 a4 a5 a6 a7 a8 a9 a10 a11 k, LeO (revetmentref20_Kind.f k a0 a1 a2 a3 a4 a5 a6 a7 a8 a9 a10 a11) (revetmentref20_Kind.f (k + 1) a0 a1 a2 a3 a4 a5 a6 a7 a8 a9 a10 a11) := by
  intro a0 a1 a2 a3 a4 a5 a6 a7 a8 a9 a10 a11 k
  have ih0 := revetmentref20_Kind.mono_l k
  unfold revetmentref20_Kind.f
  repeat' first
      | (with_reducible exact ih0 _ _ _ _ _ _ _ _ _ _ _ _ _)
      | (with_reducible exact revetmentref07_Check.mono _ _ _ _ _ _ _ _ _ _ _ _)
      | (with_reducible exact LeO.refl _)
      | (with_reducible exact LeO.none _)
      | (with_reducible refine LeO.ite ?_ ?_)
      | (with_reducible refine LeO.bind ?_ (fun _ => ?_))
      | exact ih0 _ _ _ _ _ _ _ _ _ _ _ _ _
      | exact revetmentref07_Check.mono _ _ _ _ _ _ _ _ _ _ _ _
      | exact LeO.none _
      | refine LeO.ite ?_ ?_
      | refine LeO.bind ?_ (fun _ => ?_)
set_option maxHeartbeats 8000000 in
set_option maxRecDepth 100000 in
theorem revetmentref20_Kind.calls (k : Nat) (a0_0 : Int) (a0_1 : Int) (a0_2 : Int) (a0_3 : Int) (a0_4 : Int) (a0_5 : Int) (a0_6 : Int) (a0_7 : Int) (a0_8 : Int) (a0_9 : Int) (a0_10 : Int) (a1 : Int) (r1 : Int) (r2 : Bool) (r3 : Bool) (w : World) (h : revetmentref20_Kind.f k a0_0 a0_1 a0_2 a0_3 a0_4 a0_5 a0_6 a0_7 a0_8 a0_9 a0_10 a1 = some (r1, r2, r3)) :
    Calls Try.prog 66 #[.agg #[.int .i64 a0_0, .int .i64 a0_1, .int .i64 a0_2, .int .i64 a0_3, .int .i64 a0_4, .int .i64 a0_5, .int .i64 a0_6, .int .i64 a0_7, .int .i64 a0_8, .int .i64 a0_9, .int .i64 a0_10], .int .i64 a1] w fun e w' => e = .returned (.tuple #[.int .i64 r1, .bool r2, .bool r3]) ∧ Below w.heap.size w w' := by
  have hu52 := Try.underlying52
  have HB := Aside0.mk (Below.refl w.heap.size w)
  have H : ((revetmentref07_Check.f k a0_0 a0_1 a0_2 a0_3 a0_4 a0_5 a0_6 a0_7 a0_8 a0_9 a0_10).bind fun t583 => (if t583 = 0 then (if a1 < 0 then (revetmentref20_Kind.j0 k a1 true a0_0 a0_1 a0_2 a0_3 a0_4 a0_5 a0_6 a0_7 a0_8 a0_9 a0_10) else (revetmentref20_Kind.j0 k a1 (decide (a1 ≥ (wrap64 ((wrap64 (a0_7 + a0_5)) + a0_6)))) a0_0 a0_1 a0_2 a0_3 a0_4 a0_5 a0_6 a0_7 a0_8 a0_9 a0_10)) else (revetmentref20_Kind.j0 k a1 true a0_0 a0_1 a0_2 a0_3 a0_4 a0_5 a0_6 a0_7 a0_8 a0_9 a0_10))) = some (r1, r2, r3) := h
  clear h
  have HC3 := Aside0.mk H
  clear H
  go_enter Try.func66, Try.ntmps66
  go_upto_region 1 with (first | ((with_reducible refine gate_dst (N := 2) rfl ?_); refine box_event ?hg (N := 2) ?hd (cs := #[.int .i64 a0_0, .int .i64 a0_1, .int .i64 a0_2, .int .i64 a0_3, .int .i64 a0_4, .int .i64 a0_5, .int .i64 a0_6, .int .i64 a0_7, .int .i64 a0_8, .int .i64 a0_9, .int .i64 a0_10]) (t := 52) ?hr ?_; (case hd => rfl); (case hg => rfl); (case hr => first | (go_simp; done) | (go_simp; rfl)); intro gb582 hg w4 hbox hb; have n0_ := Aside0.mk (below_step (by repeat (first | (with_reducible first | exact HB.out | apply below_alloc | apply pw_below_drewN | apply below_drew1) | exact HB.out)) hb); have n1_ := Aside0.mk (hbox); have n2_ := Aside0.mk ((by rw [hg]; exact (below_size (by repeat (first | (with_reducible first | exact HB.out | apply below_alloc | apply pw_below_drewN | apply below_drew1) | exact HB.out))) : w.heap.size ≤ gb582)); have n3_ := Aside0.mk ((by rw [hg]; exact (below_size (by repeat (first | (with_reducible first | exact HB.out | apply below_alloc | apply pw_below_drewN | apply below_drew1) | exact HB.out))) : w.heap.size ≤ gb582)); clear HB; have HB := n0_; have BK582 := n1_; have GW582 := n2_; have GE582 := n3_; clear n0_ n1_ n2_ n3_; clear hb hbox hg))
  (try simp only [Act.put, List.setIfInBounds_toArray, List.set_cons_zero, List.set_cons_succ])
  go_cut [25] (fun v25 wc => ∃ (kq : Nat) (x25_2 : Bool), v25 = .bool x25_2 ∧ Aside0 (revetmentref20_Kind.j0 kq a1 x25_2 a0_0 a0_1 a0_2 a0_3 a0_4 a0_5 a0_6 a0_7 a0_8 a0_9 a0_10 = some (r1, r2, r3)) ∧ Aside0 (kq ≤ k) ∧ Aside0 (wc.heap[gb582]? = some (.cells #[.int .i64 a0_0, .int .i64 a0_1, .int .i64 a0_2, .int .i64 a0_3, .int .i64 a0_4, .int .i64 a0_5, .int .i64 a0_6, .int .i64 a0_7, .int .i64 a0_8, .int .i64 a0_9, .int .i64 a0_10] 52 (0, 0))) ∧ Aside0 (Below w.heap.size w wc))
  case first =>
    have H := HC3.out
    clear HC3
    replace H := Option.bind_eq_some_iff.mp H
    obtain ⟨t583, A50, H⟩ := H
    replace H : (if t583 = 0 then (if a1 < 0 then (revetmentref20_Kind.j0 k a1 true a0_0 a0_1 a0_2 a0_3 a0_4 a0_5 a0_6 a0_7 a0_8 a0_9 a0_10) else (revetmentref20_Kind.j0 k a1 (decide (a1 ≥ (wrap64 ((wrap64 (a0_7 + a0_5)) + a0_6)))) a0_0 a0_1 a0_2 a0_3 a0_4 a0_5 a0_6 a0_7 a0_8 a0_9 a0_10)) else (revetmentref20_Kind.j0 k a1 true a0_0 a0_1 a0_2 a0_3 a0_4 a0_5 a0_6 a0_7 a0_8 a0_9 a0_10)) = some (r1, r2, r3) := H
    have A5 := Aside0.mk A50
    clear A50
    by_cases c6 : t583 = 0
    · rw [if_pos c6] at H
      have c6b0 : (t583 == 0) = true := beq_iff_eq.mpr c6
      have c6b1 : (t583 != 0) = false := bne_eq_false_iff_eq.mpr c6
      clear c6
      (first | rw [c6b0] | (simp only [i64_w, i32_w]; rw [c6b0]) | skip)
      by_cases c7 : a1 < 0
      · rw [if_pos c7] at H
        have c7b0 : decide (a1 < 0) = true := decide_eq_true c7
        clear c7
        have H' := Aside0.mk H
        clear H
        have hcz8_0 : w4.cell? ⟨gb582, 0, none⟩ = some (.int .i64 a0_0) := (blk_cell BK582.out 0).trans rfl
        have hcz8_1 : w4.cell? ⟨gb582, 1, none⟩ = some (.int .i64 a0_1) := (blk_cell BK582.out 1).trans rfl
        have hcz8_2 : w4.cell? ⟨gb582, 2, none⟩ = some (.int .i64 a0_2) := (blk_cell BK582.out 2).trans rfl
        have hcz8_3 : w4.cell? ⟨gb582, 3, none⟩ = some (.int .i64 a0_3) := (blk_cell BK582.out 3).trans rfl
        have hcz8_4 : w4.cell? ⟨gb582, 4, none⟩ = some (.int .i64 a0_4) := (blk_cell BK582.out 4).trans rfl
        have hcz8_5 : w4.cell? ⟨gb582, 5, none⟩ = some (.int .i64 a0_5) := (blk_cell BK582.out 5).trans rfl
        have hcz8_6 : w4.cell? ⟨gb582, 6, none⟩ = some (.int .i64 a0_6) := (blk_cell BK582.out 6).trans rfl
        have hcz8_7 : w4.cell? ⟨gb582, 7, none⟩ = some (.int .i64 a0_7) := (blk_cell BK582.out 7).trans rfl
        have hcz8_8 : w4.cell? ⟨gb582, 8, none⟩ = some (.int .i64 a0_8) := (blk_cell BK582.out 8).trans rfl
        have hcz8_9 : w4.cell? ⟨gb582, 9, none⟩ = some (.int .i64 a0_9) := (blk_cell BK582.out 9).trans rfl
        have hcz8_10 : w4.cell? ⟨gb582, 10, none⟩ = some (.int .i64 a0_10) := (blk_cell BK582.out 10).trans rfl
        have hfz8_0 := blk_frozen BK582.out 0
        have hfz8_1 := blk_frozen BK582.out 1
        have hfz8_2 := blk_frozen BK582.out 2
        have hfz8_3 := blk_frozen BK582.out 3
        have hfz8_4 := blk_frozen BK582.out 4
        have hfz8_5 := blk_frozen BK582.out 5
        have hfz8_6 := blk_frozen BK582.out 6
        have hfz8_7 := blk_frozen BK582.out 7
        have hfz8_8 := blk_frozen BK582.out 8
        have hfz8_9 := blk_frozen BK582.out 9
        have hfz8_10 := blk_frozen BK582.out 10
        go_wp2_with (first | ((with_reducible refine gate_callee (f := 52) rfl ?_); refine goesL_ (some 8) rfl rfl Try.func52 (by kernel_rfl) rfl #[.agg #[.int .i64 a0_0, .int .i64 a0_1, .int .i64 a0_2, .int .i64 a0_3, .int .i64 a0_4, .int .i64 a0_5, .int .i64 a0_6, .int .i64 a0_7, .int .i64 a0_8, .int .i64 a0_9, .int .i64 a0_10]] rfl (by (try simp only [List.map_toArray, List.map_cons, List.map_nil]); first | done | rfl | (simp only [List.length_drop, List.length_take]; rfl)) ?_; (with_reducible refine (revetmentref07_Check.calls k a0_0 a0_1 a0_2 a0_3 a0_4 a0_5 a0_6 a0_7 a0_8 a0_9 a0_10 t583 _ A5.out).mono ?_); rintro e w9 ⟨rfl, hb⟩; refine ⟨_, rfl, ?_⟩; have n0_ := Aside0.mk (blk_below (g := gb582) (o := .cells #[.int .i64 a0_0, .int .i64 a0_1, .int .i64 a0_2, .int .i64 a0_3, .int .i64 a0_4, .int .i64 a0_5, .int .i64 a0_6, .int .i64 a0_7, .int .i64 a0_8, .int .i64 a0_9, .int .i64 a0_10] 52 (0, 0)) (by (with_reducible repeat (first | refine blk_drewN ?_ _ | refine blk_drew ?_ | refine blk_alloc ?_ _)); exact BK582.out) hb); have n1_ := Aside0.mk (below_step (by repeat (first | (with_reducible first | exact HB.out | apply below_alloc | apply pw_below_drewN | apply below_drew1 | refine below_set ?_ GE582.out) | exact HB.out)) hb); clear BK582; clear HB; have BK582 := n0_; have HB := n1_; clear n0_ n1_; (try clear hb); (try clear hb2); (try clear hk); (try clear hi)))
        go_meet
        case rel => exact ⟨_, (true), (by first | rfl | (simp; done) | (simp [*]; done)), H', ⟨by first | omega | exact Nat.le_refl _⟩, ⟨by (with_reducible repeat (first | refine blk_drewN ?_ _ | refine blk_drew ?_ | refine blk_alloc ?_ _)); exact BK582.out⟩, ⟨by repeat (first | (with_reducible first | exact HB.out | apply below_alloc | apply pw_below_drewN | apply below_drew1 | refine below_set ?_ GE582.out) | exact HB.out)⟩⟩
      · rw [if_neg c7] at H
        have c7b0 : decide (a1 < 0) = false := decide_eq_false c7
        clear c7
        have H' := Aside0.mk H
        clear H
        have hcz10_0 : w4.cell? ⟨gb582, 0, none⟩ = some (.int .i64 a0_0) := (blk_cell BK582.out 0).trans rfl
        have hcz10_1 : w4.cell? ⟨gb582, 1, none⟩ = some (.int .i64 a0_1) := (blk_cell BK582.out 1).trans rfl
        have hcz10_2 : w4.cell? ⟨gb582, 2, none⟩ = some (.int .i64 a0_2) := (blk_cell BK582.out 2).trans rfl
        have hcz10_3 : w4.cell? ⟨gb582, 3, none⟩ = some (.int .i64 a0_3) := (blk_cell BK582.out 3).trans rfl
        have hcz10_4 : w4.cell? ⟨gb582, 4, none⟩ = some (.int .i64 a0_4) := (blk_cell BK582.out 4).trans rfl
        have hcz10_5 : w4.cell? ⟨gb582, 5, none⟩ = some (.int .i64 a0_5) := (blk_cell BK582.out 5).trans rfl
        have hcz10_6 : w4.cell? ⟨gb582, 6, none⟩ = some (.int .i64 a0_6) := (blk_cell BK582.out 6).trans rfl
        have hcz10_7 : w4.cell? ⟨gb582, 7, none⟩ = some (.int .i64 a0_7) := (blk_cell BK582.out 7).trans rfl
        have hcz10_8 : w4.cell? ⟨gb582, 8, none⟩ = some (.int .i64 a0_8) := (blk_cell BK582.out 8).trans rfl
        have hcz10_9 : w4.cell? ⟨gb582, 9, none⟩ = some (.int .i64 a0_9) := (blk_cell BK582.out 9).trans rfl
        have hcz10_10 : w4.cell? ⟨gb582, 10, none⟩ = some (.int .i64 a0_10) := (blk_cell BK582.out 10).trans rfl
        have hfz10_0 := blk_frozen BK582.out 0
        have hfz10_1 := blk_frozen BK582.out 1
        have hfz10_2 := blk_frozen BK582.out 2
        have hfz10_3 := blk_frozen BK582.out 3
        have hfz10_4 := blk_frozen BK582.out 4
        have hfz10_5 := blk_frozen BK582.out 5
        have hfz10_6 := blk_frozen BK582.out 6
        have hfz10_7 := blk_frozen BK582.out 7
        have hfz10_8 := blk_frozen BK582.out 8
        have hfz10_9 := blk_frozen BK582.out 9
        have hfz10_10 := blk_frozen BK582.out 10
        go_wp2_with (first | ((with_reducible refine gate_callee (f := 52) rfl ?_); refine goesL_ (some 8) rfl rfl Try.func52 (by kernel_rfl) rfl #[.agg #[.int .i64 a0_0, .int .i64 a0_1, .int .i64 a0_2, .int .i64 a0_3, .int .i64 a0_4, .int .i64 a0_5, .int .i64 a0_6, .int .i64 a0_7, .int .i64 a0_8, .int .i64 a0_9, .int .i64 a0_10]] rfl (by (try simp only [List.map_toArray, List.map_cons, List.map_nil]); first | done | rfl | (simp only [List.length_drop, List.length_take]; rfl)) ?_; (with_reducible refine (revetmentref07_Check.calls k a0_0 a0_1 a0_2 a0_3 a0_4 a0_5 a0_6 a0_7 a0_8 a0_9 a0_10 t583 _ A5.out).mono ?_); rintro e w11 ⟨rfl, hb⟩; refine ⟨_, rfl, ?_⟩; have n0_ := Aside0.mk (blk_below (g := gb582) (o := .cells #[.int .i64 a0_0, .int .i64 a0_1, .int .i64 a0_2, .int .i64 a0_3, .int .i64 a0_4, .int .i64 a0_5, .int .i64 a0_6, .int .i64 a0_7, .int .i64 a0_8, .int .i64 a0_9, .int .i64 a0_10] 52 (0, 0)) (by (with_reducible repeat (first | refine blk_drewN ?_ _ | refine blk_drew ?_ | refine blk_alloc ?_ _)); exact BK582.out) hb); have n1_ := Aside0.mk (below_step (by repeat (first | (with_reducible first | exact HB.out | apply below_alloc | apply pw_below_drewN | apply below_drew1 | refine below_set ?_ GE582.out) | exact HB.out)) hb); clear BK582; clear HB; have BK582 := n0_; have HB := n1_; clear n0_ n1_; (try clear hb); (try clear hb2); (try clear hk); (try clear hi); have hcz12_0 : w11.cell? ⟨gb582, 0, none⟩ = some (.int .i64 a0_0) := (blk_cell BK582.out 0).trans rfl; have hcz12_1 : w11.cell? ⟨gb582, 1, none⟩ = some (.int .i64 a0_1) := (blk_cell BK582.out 1).trans rfl; have hcz12_2 : w11.cell? ⟨gb582, 2, none⟩ = some (.int .i64 a0_2) := (blk_cell BK582.out 2).trans rfl; have hcz12_3 : w11.cell? ⟨gb582, 3, none⟩ = some (.int .i64 a0_3) := (blk_cell BK582.out 3).trans rfl; have hcz12_4 : w11.cell? ⟨gb582, 4, none⟩ = some (.int .i64 a0_4) := (blk_cell BK582.out 4).trans rfl; have hcz12_5 : w11.cell? ⟨gb582, 5, none⟩ = some (.int .i64 a0_5) := (blk_cell BK582.out 5).trans rfl; have hcz12_6 : w11.cell? ⟨gb582, 6, none⟩ = some (.int .i64 a0_6) := (blk_cell BK582.out 6).trans rfl; have hcz12_7 : w11.cell? ⟨gb582, 7, none⟩ = some (.int .i64 a0_7) := (blk_cell BK582.out 7).trans rfl; have hcz12_8 : w11.cell? ⟨gb582, 8, none⟩ = some (.int .i64 a0_8) := (blk_cell BK582.out 8).trans rfl; have hcz12_9 : w11.cell? ⟨gb582, 9, none⟩ = some (.int .i64 a0_9) := (blk_cell BK582.out 9).trans rfl; have hcz12_10 : w11.cell? ⟨gb582, 10, none⟩ = some (.int .i64 a0_10) := (blk_cell BK582.out 10).trans rfl; have hfz12_0 := blk_frozen BK582.out 0; have hfz12_1 := blk_frozen BK582.out 1; have hfz12_2 := blk_frozen BK582.out 2; have hfz12_3 := blk_frozen BK582.out 3; have hfz12_4 := blk_frozen BK582.out 4; have hfz12_5 := blk_frozen BK582.out 5; have hfz12_6 := blk_frozen BK582.out 6; have hfz12_7 := blk_frozen BK582.out 7; have hfz12_8 := blk_frozen BK582.out 8; have hfz12_9 := blk_frozen BK582.out 9; have hfz12_10 := blk_frozen BK582.out 10))
        go_meet
        case rel => exact ⟨_, (decide (a1 ≥ (wrap64 ((wrap64 (a0_7 + a0_5)) + a0_6)))), (by first | rfl | (simp; done) | (simp [*]; done)), H', ⟨by first | omega | exact Nat.le_refl _⟩, ⟨by (with_reducible repeat (first | refine blk_drewN ?_ _ | refine blk_drew ?_ | refine blk_alloc ?_ _)); exact BK582.out⟩, ⟨by repeat (first | (with_reducible first | exact HB.out | apply below_alloc | apply pw_below_drewN | apply below_drew1 | refine below_set ?_ GE582.out) | exact HB.out)⟩⟩
    · rw [if_neg c6] at H
      have c6b0 : (t583 == 0) = false := beq_eq_false_iff_ne.mpr c6
      have c6b1 : (t583 != 0) = true := bne_iff_ne.mpr c6
      (first | rw [c6b0] | (simp only [i64_w, i32_w]; rw [c6b0]) | skip)
      have H' := Aside0.mk H
      clear H
      have hcz13_0 : w4.cell? ⟨gb582, 0, none⟩ = some (.int .i64 a0_0) := (blk_cell BK582.out 0).trans rfl
      have hcz13_1 : w4.cell? ⟨gb582, 1, none⟩ = some (.int .i64 a0_1) := (blk_cell BK582.out 1).trans rfl
      have hcz13_2 : w4.cell? ⟨gb582, 2, none⟩ = some (.int .i64 a0_2) := (blk_cell BK582.out 2).trans rfl
      have hcz13_3 : w4.cell? ⟨gb582, 3, none⟩ = some (.int .i64 a0_3) := (blk_cell BK582.out 3).trans rfl
      have hcz13_4 : w4.cell? ⟨gb582, 4, none⟩ = some (.int .i64 a0_4) := (blk_cell BK582.out 4).trans rfl
      have hcz13_5 : w4.cell? ⟨gb582, 5, none⟩ = some (.int .i64 a0_5) := (blk_cell BK582.out 5).trans rfl
      have hcz13_6 : w4.cell? ⟨gb582, 6, none⟩ = some (.int .i64 a0_6) := (blk_cell BK582.out 6).trans rfl
      have hcz13_7 : w4.cell? ⟨gb582, 7, none⟩ = some (.int .i64 a0_7) := (blk_cell BK582.out 7).trans rfl
      have hcz13_8 : w4.cell? ⟨gb582, 8, none⟩ = some (.int .i64 a0_8) := (blk_cell BK582.out 8).trans rfl
      have hcz13_9 : w4.cell? ⟨gb582, 9, none⟩ = some (.int .i64 a0_9) := (blk_cell BK582.out 9).trans rfl
      have hcz13_10 : w4.cell? ⟨gb582, 10, none⟩ = some (.int .i64 a0_10) := (blk_cell BK582.out 10).trans rfl
      have hfz13_0 := blk_frozen BK582.out 0
      have hfz13_1 := blk_frozen BK582.out 1
      have hfz13_2 := blk_frozen BK582.out 2
      have hfz13_3 := blk_frozen BK582.out 3
      have hfz13_4 := blk_frozen BK582.out 4
      have hfz13_5 := blk_frozen BK582.out 5
      have hfz13_6 := blk_frozen BK582.out 6
      have hfz13_7 := blk_frozen BK582.out 7
      have hfz13_8 := blk_frozen BK582.out 8
      have hfz13_9 := blk_frozen BK582.out 9
      have hfz13_10 := blk_frozen BK582.out 10
      go_wp2_with (first | ((with_reducible refine gate_callee (f := 52) rfl ?_); refine goesL_ (some 8) rfl rfl Try.func52 (by kernel_rfl) rfl #[.agg #[.int .i64 a0_0, .int .i64 a0_1, .int .i64 a0_2, .int .i64 a0_3, .int .i64 a0_4, .int .i64 a0_5, .int .i64 a0_6, .int .i64 a0_7, .int .i64 a0_8, .int .i64 a0_9, .int .i64 a0_10]] rfl (by (try simp only [List.map_toArray, List.map_cons, List.map_nil]); first | done | rfl | (simp only [List.length_drop, List.length_take]; rfl)) ?_; (with_reducible refine (revetmentref07_Check.calls k a0_0 a0_1 a0_2 a0_3 a0_4 a0_5 a0_6 a0_7 a0_8 a0_9 a0_10 t583 _ A5.out).mono ?_); rintro e w14 ⟨rfl, hb⟩; refine ⟨_, rfl, ?_⟩; have n0_ := Aside0.mk (blk_below (g := gb582) (o := .cells #[.int .i64 a0_0, .int .i64 a0_1, .int .i64 a0_2, .int .i64 a0_3, .int .i64 a0_4, .int .i64 a0_5, .int .i64 a0_6, .int .i64 a0_7, .int .i64 a0_8, .int .i64 a0_9, .int .i64 a0_10] 52 (0, 0)) (by (with_reducible repeat (first | refine blk_drewN ?_ _ | refine blk_drew ?_ | refine blk_alloc ?_ _)); exact BK582.out) hb); have n1_ := Aside0.mk (below_step (by repeat (first | (with_reducible first | exact HB.out | apply below_alloc | apply pw_below_drewN | apply below_drew1 | refine below_set ?_ GE582.out) | exact HB.out)) hb); clear BK582; clear HB; have BK582 := n0_; have HB := n1_; clear n0_ n1_; (try clear hb); (try clear hb2); (try clear hk); (try clear hi)))
      go_meet
      case rel => exact ⟨_, (true), (by first | rfl | (simp; done) | (simp [*]; done)), H', ⟨by first | omega | exact Nat.le_refl _⟩, ⟨by (with_reducible repeat (first | refine blk_drewN ?_ _ | refine blk_drew ?_ | refine blk_alloc ?_ _)); exact BK582.out⟩, ⟨by repeat (first | (with_reducible first | exact HB.out | apply below_alloc | apply pw_below_drewN | apply below_drew1 | refine below_set ?_ GE582.out) | exact HB.out)⟩⟩
  case rest =>
    clear HC3
    try clear p2
    try clear c5
    try clear c6
    try clear c6b0
    try clear c6b1
    try clear p6
    try clear c7
    try clear c7b0
    try clear hcz10_0
    try clear hcz10_1
    try clear hcz10_10
    try clear hcz10_2
    try clear hcz10_3
    try clear hcz10_4
    try clear hcz10_5
    try clear hcz10_6
    try clear hcz10_7
    try clear hcz10_8
    try clear hcz10_9
    try clear hcz12_0
    try clear hcz12_1
    try clear hcz12_10
    try clear hcz12_2
    try clear hcz12_3
    try clear hcz12_4
    try clear hcz12_5
    try clear hcz12_6
    try clear hcz12_7
    try clear hcz12_8
    try clear hcz12_9
    try clear hcz13_0
    try clear hcz13_1
    try clear hcz13_10
    try clear hcz13_2
    try clear hcz13_3
    try clear hcz13_4
    try clear hcz13_5
    try clear hcz13_6
    try clear hcz13_7
    try clear hcz13_8
    try clear hcz13_9
    try clear hcz8_0
    try clear hcz8_1
    try clear hcz8_10
    try clear hcz8_2
    try clear hcz8_3
    try clear hcz8_4
    try clear hcz8_5
    try clear hcz8_6
    try clear hcz8_7
    try clear hcz8_8
    try clear hcz8_9
    try clear hfz10_0
    try clear hfz10_1
    try clear hfz10_10
    try clear hfz10_2
    try clear hfz10_3
    try clear hfz10_4
    try clear hfz10_5
    try clear hfz10_6
    try clear hfz10_7
    try clear hfz10_8
    try clear hfz10_9
    try clear hfz12_0
    try clear hfz12_1
    try clear hfz12_10
    try clear hfz12_2
    try clear hfz12_3
    try clear hfz12_4
    try clear hfz12_5
    try clear hfz12_6
    try clear hfz12_7
    try clear hfz12_8
    try clear hfz12_9
    try clear hfz13_0
    try clear hfz13_1
    try clear hfz13_10
    try clear hfz13_2
    try clear hfz13_3
    try clear hfz13_4
    try clear hfz13_5
    try clear hfz13_6
    try clear hfz13_7
    try clear hfz13_8
    try clear hfz13_9
    try clear hfz8_0
    try clear hfz8_1
    try clear hfz8_10
    try clear hfz8_2
    try clear hfz8_3
    try clear hfz8_4
    try clear hfz8_5
    try clear hfz8_6
    try clear hfz8_7
    try clear hfz8_8
    try clear hfz8_9
    obtain ⟨kq, x25_2, rfl, HA, HJ2, BK582, HB⟩ := hcut
    cases kq with
    | zero => exact absurd HA.out (by simp [revetmentref20_Kind.j0])
    | succ kj2 =>
      have H := HA.out
      clear HA
      simp only [revetmentref20_Kind.j0] at H
      by_cases c15 : x25_2 = true
      · subst c15
        have H1 : (some (0, false, false)) = some (r1, r2, r3) := by rw [if_pos rfl] at H; exact H
        clear H
        have H := H1
        clear H1
        simp only [Option.some.injEq, Prod.mk.injEq] at H
        obtain ⟨rfl, rfl, rfl⟩ := H
        go_wp2
        go_ret3
        exact ⟨by first | rfl | (simp [errW_none, errW_some] <;> rfl) | (simp [*, errW_none, errW_some] <;> rfl), by repeat (first | (with_reducible first | exact HB.out | apply below_alloc | apply pw_below_drewN | apply below_drew1 | refine below_set ?_ GE582.out) | exact HB.out)⟩
      · replace c15 := Bool.eq_false_iff.mpr c15
        subst c15
        have H1 : (if a1 < a0_7 then (some (a1, true, true)) else (some (wrap64 (a1 - a0_7), false, true))) = some (r1, r2, r3) := by rw [if_neg (show ¬ (false = true) by decide)] at H; exact H
        clear H
        have H := H1
        clear H1
        by_cases c16 : a1 < a0_7
        · rw [if_pos c16] at H
          have c16b0 : decide (a1 < a0_7) = true := decide_eq_true c16
          clear c16
          simp only [Option.some.injEq, Prod.mk.injEq] at H
          obtain ⟨rfl, rfl, rfl⟩ := H
          have hcz17_0 : wc.cell? ⟨gb582, 0, none⟩ = some (.int .i64 a0_0) := (blk_cell BK582.out 0).trans rfl
          have hcz17_1 : wc.cell? ⟨gb582, 1, none⟩ = some (.int .i64 a0_1) := (blk_cell BK582.out 1).trans rfl
          have hcz17_2 : wc.cell? ⟨gb582, 2, none⟩ = some (.int .i64 a0_2) := (blk_cell BK582.out 2).trans rfl
          have hcz17_3 : wc.cell? ⟨gb582, 3, none⟩ = some (.int .i64 a0_3) := (blk_cell BK582.out 3).trans rfl
          have hcz17_4 : wc.cell? ⟨gb582, 4, none⟩ = some (.int .i64 a0_4) := (blk_cell BK582.out 4).trans rfl
          have hcz17_5 : wc.cell? ⟨gb582, 5, none⟩ = some (.int .i64 a0_5) := (blk_cell BK582.out 5).trans rfl
          have hcz17_6 : wc.cell? ⟨gb582, 6, none⟩ = some (.int .i64 a0_6) := (blk_cell BK582.out 6).trans rfl
          have hcz17_7 : wc.cell? ⟨gb582, 7, none⟩ = some (.int .i64 a0_7) := (blk_cell BK582.out 7).trans rfl
          have hcz17_8 : wc.cell? ⟨gb582, 8, none⟩ = some (.int .i64 a0_8) := (blk_cell BK582.out 8).trans rfl
          have hcz17_9 : wc.cell? ⟨gb582, 9, none⟩ = some (.int .i64 a0_9) := (blk_cell BK582.out 9).trans rfl
          have hcz17_10 : wc.cell? ⟨gb582, 10, none⟩ = some (.int .i64 a0_10) := (blk_cell BK582.out 10).trans rfl
          have hfz17_0 := blk_frozen BK582.out 0
          have hfz17_1 := blk_frozen BK582.out 1
          have hfz17_2 := blk_frozen BK582.out 2
          have hfz17_3 := blk_frozen BK582.out 3
          have hfz17_4 := blk_frozen BK582.out 4
          have hfz17_5 := blk_frozen BK582.out 5
          have hfz17_6 := blk_frozen BK582.out 6
          have hfz17_7 := blk_frozen BK582.out 7
          have hfz17_8 := blk_frozen BK582.out 8
          have hfz17_9 := blk_frozen BK582.out 9
          have hfz17_10 := blk_frozen BK582.out 10
          go_wp2
          go_ret3
          exact ⟨by first | rfl | (simp [errW_none, errW_some] <;> rfl) | (simp [*, errW_none, errW_some] <;> rfl), by repeat (first | (with_reducible first | exact HB.out | apply below_alloc | apply pw_below_drewN | apply below_drew1 | refine below_set ?_ GE582.out) | exact HB.out)⟩
        · rw [if_neg c16] at H
          have c16b0 : decide (a1 < a0_7) = false := decide_eq_false c16
          clear c16
          simp only [Option.some.injEq, Prod.mk.injEq] at H
          obtain ⟨rfl, rfl, rfl⟩ := H
          have hcz18_0 : wc.cell? ⟨gb582, 0, none⟩ = some (.int .i64 a0_0) := (blk_cell BK582.out 0).trans rfl
          have hcz18_1 : wc.cell? ⟨gb582, 1, none⟩ = some (.int .i64 a0_1) := (blk_cell BK582.out 1).trans rfl
          have hcz18_2 : wc.cell? ⟨gb582, 2, none⟩ = some (.int .i64 a0_2) := (blk_cell BK582.out 2).trans rfl
          have hcz18_3 : wc.cell? ⟨gb582, 3, none⟩ = some (.int .i64 a0_3) := (blk_cell BK582.out 3).trans rfl
          have hcz18_4 : wc.cell? ⟨gb582, 4, none⟩ = some (.int .i64 a0_4) := (blk_cell BK582.out 4).trans rfl
          have hcz18_5 : wc.cell? ⟨gb582, 5, none⟩ = some (.int .i64 a0_5) := (blk_cell BK582.out 5).trans rfl
          have hcz18_6 : wc.cell? ⟨gb582, 6, none⟩ = some (.int .i64 a0_6) := (blk_cell BK582.out 6).trans rfl
          have hcz18_7 : wc.cell? ⟨gb582, 7, none⟩ = some (.int .i64 a0_7) := (blk_cell BK582.out 7).trans rfl
          have hcz18_8 : wc.cell? ⟨gb582, 8, none⟩ = some (.int .i64 a0_8) := (blk_cell BK582.out 8).trans rfl
          have hcz18_9 : wc.cell? ⟨gb582, 9, none⟩ = some (.int .i64 a0_9) := (blk_cell BK582.out 9).trans rfl
          have hcz18_10 : wc.cell? ⟨gb582, 10, none⟩ = some (.int .i64 a0_10) := (blk_cell BK582.out 10).trans rfl
          have hfz18_0 := blk_frozen BK582.out 0
          have hfz18_1 := blk_frozen BK582.out 1
          have hfz18_2 := blk_frozen BK582.out 2
          have hfz18_3 := blk_frozen BK582.out 3
          have hfz18_4 := blk_frozen BK582.out 4
          have hfz18_5 := blk_frozen BK582.out 5
          have hfz18_6 := blk_frozen BK582.out 6
          have hfz18_7 := blk_frozen BK582.out 7
          have hfz18_8 := blk_frozen BK582.out 8
          have hfz18_9 := blk_frozen BK582.out 9
          have hfz18_10 := blk_frozen BK582.out 10
          go_wp2
          go_ret3
          exact ⟨by first | rfl | (simp [errW_none, errW_some] <;> rfl) | (simp [*, errW_none, errW_some] <;> rfl), by repeat (first | (with_reducible first | exact HB.out | apply below_alloc | apply pw_below_drewN | apply below_drew1 | refine below_set ?_ GE582.out) | exact HB.out)⟩

end Go.Proofs.Ytimpefahapkmhaa.M
