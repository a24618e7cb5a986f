-- Written by wip/tools/mine.py (a program of this session, over the kit's print and texts of its own).
import Derived.Test.YthpggaglmdnncaaM0
import Derived.Test.YthpggaglmdnncaaMbitmap
import Derived.Test.YthpggaglmdnncaaMrref19
namespace Go.Proofs.Ythpggaglmdnncaa.M
open Go.RowKit Go.Proofs.YthpggaglmdnncaaW.PrintWords Go.Proofs.YthpggaglmdnncaaW.PrintLast Go.Proofs.YthpggaglmdnncaaW.PrintMore Go.Proofs.YthpggaglmdnncaaW.MyWords
attribute [local go_sem] max2_int min2_int max_two min_two max_three min_three max_four min_four   -- for this text's walks alone
set_option linter.unusedVariables false
set_option linter.unusedSimpArgs false

/-! ### revetmentlaw19_live: function 60 -/
def revetmentlaw19_live.f (k : Nat)  : Option (Bool) := (bitmap_New.f 4).bind fun bt507 => ((bitmap_Set.f k bt507.1 bt507.2 true (([1, 3] : List Int))).bind fun bt514 => ((bitmap_Text.f k bt514.1 bt514.2).bind fun t518 => (some (t518.toList == ([48, 49, 48, 49] : List UInt8)))))
theorem revetmentlaw19_live.mono : ∀ k, LeO (revetmentlaw19_live.f k ) (revetmentlaw19_live.f (k + 1) ) := by
  intro  k
  unfold revetmentlaw19_live.f
  repeat' first
      | (with_reducible exact bitmap_Set.mono _ _ _ _ _)
      | (with_reducible exact bitmap_Text.mono _ _ _)
      | (with_reducible exact LeO.refl _)
      | (with_reducible exact LeO.none _)
      | (with_reducible refine LeO.ite ?_ ?_)
      | (with_reducible refine LeO.bind ?_ (fun _ => ?_))
      | exact bitmap_Set.mono _ _ _ _ _
      | exact bitmap_Text.mono _ _ _
      | exact LeO.none _
      | refine LeO.ite ?_ ?_
      | refine LeO.bind ?_ (fun _ => ?_)
set_option maxHeartbeats 8000000 in
set_option maxRecDepth 100000 in
theorem revetmentlaw19_live.calls (k : Nat)  (r : Bool) (w : World) (h : revetmentlaw19_live.f k  = some r) :
    Calls Try.prog 60 #[] w fun e w' => e = .returned (.bool r) ∧ Below w.heap.size w w' := by
  have HB := Aside0.mk (Below.refl w.heap.size w)
  have H : ((bitmap_New.f 4).bind fun bt507 => ((bitmap_Set.f k bt507.1 bt507.2 true (([1, 3] : List Int))).bind fun bt514 => ((bitmap_Text.f k bt514.1 bt514.2).bind fun t518 => (some (t518.toList == ([48, 49, 48, 49] : List UInt8)))))) = some r := h
  clear h
  replace H := Option.bind_eq_some_iff.mp H
  obtain ⟨⟨t507, t510⟩, A10, H⟩ := H
  replace H : ((bitmap_Set.f k t507 t510 true (([1, 3] : List Int))).bind fun bt514 => ((bitmap_Text.f k bt514.1 bt514.2).bind fun t518 => (some (t518.toList == ([48, 49, 48, 49] : List UInt8))))) = some r := H
  have A1 := Aside0.mk A10
  clear A10
  obtain ⟨y511, hy511⟩ : ∃ y_ : List Int, y_ = (([1, 3] : List Int)) := ⟨_, rfl⟩
  replace H : ((bitmap_Set.f k t507 t510 true y511).bind fun bt514 => ((bitmap_Text.f k bt514.1 bt514.2).bind fun t518 => (some (t518.toList == ([48, 49, 48, 49] : List UInt8))))) = some r := by first | (rw [hy511]; with_reducible exact H) | (have H2_ := (Option.bind_some _ _).symm.trans H; rw [hy511]; with_reducible exact H2_) | (have H2_ := (Option.bind_some _ _).symm.trans H; with_reducible exact H2_) | with_reducible exact H | (rw [hy511]; exact H) | exact H
  have Ny511 := Aside0.mk hy511
  clear hy511
  replace H := Option.bind_eq_some_iff.mp H
  obtain ⟨⟨t514, t517⟩, A20, H⟩ := H
  replace H : ((bitmap_Text.f k t514 t517).bind fun t518 => (some (t518.toList == ([48, 49, 48, 49] : List UInt8)))) = some r := H
  have A2 := Aside0.mk A20
  clear A20
  replace H := Option.bind_eq_some_iff.mp H
  obtain ⟨t518, A30, H⟩ := H
  replace H : (some (t518.toList == ([48, 49, 48, 49] : List UInt8))) = some r := H
  have A3 := Aside0.mk A30
  clear A30
  obtain rfl := Option.some.inj H
  go_enter Try.func60, Try.ntmps60
  go_wp2_with (first | ((with_reducible refine gate_callee (f := 58) rfl ?_); refine goesL_ (some 1) rfl rfl Try.func58 (by kernel_rfl) rfl #[.int .i64 4] rfl (by (try simp only [List.map_toArray, List.map_cons, List.map_nil]); first | done | rfl | (simp only [List.length_drop, List.length_take]; rfl)) ?_; (with_reducible refine (bitmap_New.calls 4 t507 t510 _ A1.out).mono ?_); rintro e w4 ⟨v508, rfl, ho0, hb⟩; refine ⟨_, rfl, ?_⟩; have n0_ := Aside0.mk (Kd.R_lower ho0 (below_size (by repeat (first | (with_reducible first | exact HB.out | apply below_alloc | apply pw_below_drewN | apply below_drew1) | exact HB.out)))); have n1_ := Aside0.mk (below_step (by repeat (first | (with_reducible first | exact HB.out | apply below_alloc | apply pw_below_drewN | apply below_drew1) | exact HB.out)) hb); clear HB; have HO509 := n0_; have HB := n1_; clear n0_ n1_; (try clear hb); (try clear hb2); (try clear hk); (try clear hi); (try clear ho0)) | ((with_reducible refine gate_dst (N := 2) rfl ?_); refine Kd.R_lit (Kd.int .i64) _ 3 ?hg (N := 2) ?hd (xs := ([1, 3] : List Int)) (inner := [.int .i64 1, .int .i64 3]) (ok := fun _ => True) (okp := fun _ => True) ?hr ?hp (fun _ hk => hk) trivial (Below.refl _ _) (Nat.le_refl _) (by simp) ?_; (case hd => rfl); (case hg => rfl); (case hr => first | (go_simp; done) | (go_simp; rfl)); (case hp => exact (Reps.one (show Kd.M (Kd.int .i64) _ _ _ 1 [.int .i64 1] from rfl) (Reps.one (show Kd.M (Kd.int .i64) _ _ _ 3 [.int .i64 3] from rfl) (Reps.none _ _)))); intro v512 w5 ho6 hb hg_ hnew_; clear hg_ hnew_; (first | rw [← Ny511.out] at ho6 | (simp only [Int.reduceToNat] at ho6; rw [← Ny511.out] at ho6)); have n0_ := Aside0.mk (Kd.R_below (by (with_reducible repeat (first | apply Kd.R_alloc | apply Kd.R_drewN | apply Kd.R_drew)); exact HO509.out) hb); have n1_ := Aside0.mk (Kd.R_lower ho6 (below_size (by repeat (first | (with_reducible first | exact HB.out | apply below_alloc | apply pw_below_drewN | apply below_drew1) | exact HB.out)))); have n2_ := Aside0.mk (below_step (by repeat (first | (with_reducible first | exact HB.out | apply below_alloc | apply pw_below_drewN | apply below_drew1) | exact HB.out)) hb); clear HO509; clear HB; have HO509 := n0_; have HO513 := n1_; have HB := n2_; clear n0_ n1_ n2_; clear hb ho6; obtain ⟨Ao7, co7, eo7⟩ := Kd.R_slice HO509.out; subst eo7; obtain ⟨Ao8, co8, eo8⟩ := Kd.R_slice HO513.out; subst eo8) | ((with_reducible refine gate_callee (f := 115) rfl ?_); refine goesL_ (some 3) rfl rfl Try.func115 (by kernel_rfl) rfl #[.agg #[.slice Ao7 t507.length co7, .int .i64 t510], .bool true, .slice Ao8 y511.length co8] rfl (by (try simp only [List.map_toArray, List.map_cons, List.map_nil]); first | done | rfl | (simp only [List.length_drop, List.length_take]; rfl)) ?_; (with_reducible refine (bitmap_Set.calls k _ _ t507 t510 true _ _ y511 t514 t517 _ ?side1 ?side2 ?side3 ?side4 A2.out).mono ?_); (case side1 => repeat (first | exact (Kd.R_reads' HO509.out).2.2 | (with_reducible refine Kd.C_alloc ?_ _) | (with_reducible refine Kd.C_drewN ?_ _) | (with_reducible refine Kd.C_drew ?_))); (case side2 => exact (Kd.R_reads' HO509.out).2.1); (case side3 => repeat (first | exact (Kd.R_reads' HO513.out).2.2 | (with_reducible refine Kd.C_alloc ?_ _) | (with_reducible refine Kd.C_drewN ?_ _) | (with_reducible refine Kd.C_drew ?_))); (case side4 => exact (Kd.R_reads' HO513.out).2.1); rintro e w9 ⟨v515, rfl, ho0, hb⟩; refine ⟨_, rfl, ?_⟩; have n0_ := Aside0.mk (Kd.R_elder' (by (with_reducible repeat (first | apply Kd.R_alloc | apply Kd.R_drewN | apply Kd.R_drew)); exact HO509.out) (Kd.R_base ho0) hb); have n1_ := Aside0.mk (Kd.R_below (by (with_reducible repeat (first | apply Kd.R_alloc | apply Kd.R_drewN | apply Kd.R_drew)); exact HO513.out) hb); have n2_ := Aside0.mk (Kd.R_lower (Kd.R_new' ho0 (Kd.R_lt (by (with_reducible repeat (first | apply Kd.R_alloc | apply Kd.R_drewN | apply Kd.R_drew)); exact HO509.out))) (below_size (by repeat (first | (with_reducible first | exact HB.out | apply below_alloc | apply pw_below_drewN | apply below_drew1) | exact HB.out)))); have n3_ := Aside0.mk (below_step (by repeat (first | (with_reducible first | exact HB.out | apply below_alloc | apply pw_below_drewN | apply below_drew1) | exact HB.out)) hb); clear HO509; clear HO513; clear HB; have HO509 := n0_; have HO513 := n1_; have HO516 := n2_; have HB := n3_; clear n0_ n1_ n2_ n3_; (try clear hb); (try clear hb2); (try clear hk); (try clear hi); (try clear ho0); obtain ⟨Ao10, co10, eo10⟩ := Kd.R_slice HO516.out; subst eo10) | ((with_reducible refine gate_callee (f := 62) rfl ?_); refine goesL_ (some 4) rfl rfl Try.func62 (by kernel_rfl) rfl #[.agg #[.slice Ao10 t514.length co10, .int .i64 t517]] rfl (by (try simp only [List.map_toArray, List.map_cons, List.map_nil]); first | done | rfl | (simp only [List.length_drop, List.length_take]; rfl)) ?_; (with_reducible refine (bitmap_Text.calls k _ _ t514 t517 t518 _ ?side1 ?side2 A3.out).mono ?_); (case side1 => repeat (first | exact (Kd.R_reads' HO516.out).2.2 | (with_reducible refine Kd.C_alloc ?_ _) | (with_reducible refine Kd.C_drewN ?_ _) | (with_reducible refine Kd.C_drew ?_))); (case side2 => exact (Kd.R_reads' HO516.out).2.1); rintro e w11 ⟨rfl, hb⟩; refine ⟨_, rfl, ?_⟩; have n0_ := Aside0.mk (Kd.R_below (by (with_reducible repeat (first | apply Kd.R_alloc | apply Kd.R_drewN | apply Kd.R_drew)); exact HO509.out) hb); have n1_ := Aside0.mk (Kd.R_below (by (with_reducible repeat (first | apply Kd.R_alloc | apply Kd.R_drewN | apply Kd.R_drew)); exact HO513.out) hb); have n2_ := Aside0.mk (Kd.R_below (by (with_reducible repeat (first | apply Kd.R_alloc | apply Kd.R_drewN | apply Kd.R_drew)); exact HO516.out) hb); have n3_ := Aside0.mk (below_step (by repeat (first | (with_reducible first | exact HB.out | apply below_alloc | apply pw_below_drewN | apply below_drew1) | exact HB.out)) hb); clear HO509; clear HO513; clear HO516; clear HB; have HO509 := n0_; have HO513 := n1_; have HO516 := n2_; have HB := n3_; clear n0_ n1_ n2_ n3_; (try clear hb); (try clear hb2); (try clear hk); (try clear hi)))
  go_ret
  exact ⟨by first | rfl | (simp [errW_none, errW_some] <;> rfl) | (simp [*, errW_none, errW_some] <;> rfl), by repeat (first | (with_reducible first | exact HB.out | apply below_alloc | apply pw_below_drewN | apply below_drew1) | exact HB.out)⟩

/-! ### revetmentlaw19_play: function 61 -/
def revetmentlaw19_play.l0 : Nat → List (S102) → List Bool → Int → List Int → Int → Option (List Int × Int × List Bool)
  | 0, _, _, _, _, _ => none
  | k + 1, x1, x7, x8, x557000, x557001 => if x8 < (x1.length : Int) then (if 0 ≤ x8 then (if ((rd_T102 x1 x8).f0) = 0 then ((bitmap_Set.f k x557000 x557001 ((rd_T102 x1 x8).f1) ((rd_T102 x1 x8).f2)).bind fun bt560 => ((revetmentref19_Set.f k x7 ((rd_T102 x1 x8).f1) ((rd_T102 x1 x8).f2)).bind fun t566 => (revetmentlaw19_play.l0 k x1 t566 (wrap64 (x8 + 1)) bt560.1 bt560.2))) else ((bitmap_Fill.f k x557000 x557001 ((rd_T102 x1 x8).f3) ((rd_T102 x1 x8).f4)).bind fun bt571 => ((revetmentref19_Fill.f k x7 ((rd_T102 x1 x8).f3) ((rd_T102 x1 x8).f4)).bind fun t577 => (revetmentlaw19_play.l0 k x1 t577 (wrap64 (x8 + 1)) bt571.1 bt571.2)))) else (none)) else (some (x557000, x557001, x7))
def revetmentlaw19_play.f (k : Nat) (a0 : Int) (l1 : List (S102)) : Option (List Int × Int × List Bool) := (bitmap_New.f a0).bind fun bt549 => ((revetmentref19_New.f a0).bind fun t553 => (revetmentlaw19_play.l0 k l1 t553 0 bt549.1 bt549.2))
theorem revetmentlaw19_play.mono_l : ∀ k, (∀ y0 y1 y2 y3 y4, LeO (revetmentlaw19_play.l0 k y0 y1 y2 y3 y4) (revetmentlaw19_play.l0 (k + 1) y0 y1 y2 y3 y4))
  | 0 => fun _ _ _ _ _ r h => by simp [revetmentlaw19_play.l0] at h
  | k + 1 => by
    have ih0 := revetmentlaw19_play.mono_l k
    · intro y0 y1 y2 y3 y4
      unfold revetmentlaw19_play.l0
      repeat' first
      | (with_reducible exact ih0 _ _ _ _ _)
      | (with_reducible exact bitmap_Fill.mono _ _ _ _ _)
      | (with_reducible exact bitmap_Set.mono _ _ _ _ _)
      | (with_reducible exact revetmentref19_Fill.mono _ _ _ _)
      | (with_reducible exact revetmentref19_Set.mono _ _ _ _)
      | (with_reducible exact LeO.refl _)
      | (with_reducible exact LeO.none _)
      | (with_reducible refine LeO.ite ?_ ?_)
      | (with_reducible refine LeO.bind ?_ (fun _ => ?_))
      | exact ih0 _ _ _ _ _
      | exact bitmap_Fill.mono _ _ _ _ _
      | exact bitmap_Set.mono _ _ _ _ _
      | exact revetmentref19_Fill.mono _ _ _ _
      | exact revetmentref19_Set.mono _ _ _ _
      | exact LeO.none _
      | refine LeO.ite ?_ ?_
      | refine LeO.bind ?_ (fun _ => ?_)
theorem revetmentlaw19_play.mono : ∀ a0 a1 k, LeO (revetmentlaw19_play.f k a0 a1) (revetmentlaw19_play.f (k + 1) a0 a1) := by
  intro a0 a1 k
  have ih0 := revetmentlaw19_play.mono_l k
  unfold revetmentlaw19_play.f
  repeat' first
      | (with_reducible exact ih0 _ _ _ _ _)
      | (with_reducible exact bitmap_Fill.mono _ _ _ _ _)
      | (with_reducible exact bitmap_Set.mono _ _ _ _ _)
      | (with_reducible exact revetmentref19_Fill.mono _ _ _ _)
      | (with_reducible exact revetmentref19_Set.mono _ _ _ _)
      | (with_reducible exact LeO.refl _)
      | (with_reducible exact LeO.none _)
      | (with_reducible refine LeO.ite ?_ ?_)
      | (with_reducible refine LeO.bind ?_ (fun _ => ?_))
      | exact ih0 _ _ _ _ _
      | exact bitmap_Fill.mono _ _ _ _ _
      | exact bitmap_Set.mono _ _ _ _ _
      | exact revetmentref19_Fill.mono _ _ _ _
      | exact revetmentref19_Set.mono _ _ _ _
      | exact LeO.none _
      | refine LeO.ite ?_ ?_
      | refine LeO.bind ?_ (fun _ => ?_)
def revetmentlaw19_play.T6 : Bool × List (List Nat × List Nat) := (true, [([], []), ([], []), ([], []), ([1, 2], [1, 2]), ([3], [3]), ([4], [4]), ([], []), ([], []), ([6, 7], [6, 7]), ([8], [8]), ([9], [9]), ([0, 5, 10], [0, 5, 10]), ([], []), ([], []), ([], []), ([13, 14], [13, 14]), ([15], [15]), ([16], [16]), ([], []), ([], []), ([18, 19], [18, 19]), ([20], [20]), ([21], [21]), ([12, 17, 22, 11], [12, 17, 22]), ([11, 23, 0, 1, 2, 3, 4, 5, 6, 7, 8, 9, 10, 11], [11]), ([23, 24, 0, 1, 2, 3, 4, 5, 6, 7, 8, 9, 10, 11, 12, 13, 14, 15, 16, 17, 18, 19, 20, 21, 22, 23, 24], [12, 23])])
def revetmentlaw19_play.B6 : List Nat := [0, 0, 0, 6, 14, 30, 0, 0, 192, 448, 960, 2047, 0, 0, 0, 24576, 57344, 122880, 0, 0, 786432, 1835008, 3932160, 8388607, 16777215, 33554431]
theorem revetmentlaw19_play.tab6 : rtab .any (opsOf Try.f61 6) = revetmentlaw19_play.T6 := by kernel_rfl
theorem revetmentlaw19_play.bits6 : waitsOk revetmentlaw19_play.T6.2 revetmentlaw19_play.B6 = true := by kernel_rfl
def revetmentlaw19_play.T7 : Bool × List (List Nat × List Nat) := (true, [([], []), ([], []), ([], []), ([1, 2], [1, 2]), ([3], [3]), ([4], [4]), ([], []), ([], []), ([6, 7], [6, 7]), ([8], [8]), ([9], [9]), ([0, 5, 10], [0, 5, 10]), ([], []), ([], []), ([], []), ([13, 14], [13, 14]), ([15], [15]), ([16], [16]), ([], []), ([], []), ([18, 19], [18, 19]), ([20], [20]), ([21], [21]), ([12, 17, 22, 11], [12, 17, 22]), ([11, 23, 0, 1, 2, 3, 4, 5, 6, 7, 8, 9, 10, 11], [11]), ([23, 24, 0, 1, 2, 3, 4, 5, 6, 7, 8, 9, 10, 11, 12, 13, 14, 15, 16, 17, 18, 19, 20, 21, 22, 23, 24], [12, 23])])
def revetmentlaw19_play.B7 : List Nat := [0, 0, 0, 6, 14, 30, 0, 0, 192, 448, 960, 2047, 0, 0, 0, 24576, 57344, 122880, 0, 0, 786432, 1835008, 3932160, 8388607, 16777215, 33554431]
theorem revetmentlaw19_play.tab7 : rtab .any (opsOf Try.f61 7) = revetmentlaw19_play.T7 := by kernel_rfl
theorem revetmentlaw19_play.bits7 : waitsOk revetmentlaw19_play.T7.2 revetmentlaw19_play.B7 = true := by kernel_rfl
set_option maxHeartbeats 8000000 in
set_option maxRecDepth 100000 in
theorem revetmentlaw19_play.calls (k : Nat) (a0 : Int) (A1 : Option Addr) (c1 : Nat) (l1 : List (S102)) (r1 : List Int) (r2 : Int) (r3 : List Bool) (w : World) (hr1 : Kd.C k102 w A1 l1.length l1) (hc1 : l1.length ≤ c1) (h : revetmentlaw19_play.f k a0 l1 = some (r1, r2, r3)) :
    Calls Try.prog 61 #[.int .i64 a0, .slice A1 l1.length c1] w fun e w' => ∃ v0_ v2_ : Value, e = .returned (.tuple #[.agg #[v0_, .int .i64 r2], v2_]) ∧ Kd.R (Kd.int .u64) 162 w' w.heap.size (fun _ => True) v0_ r1 ∧ Kd.R Kd.bool 4 w' w.heap.size (fun _ => True) v2_ r3 ∧ Below w.heap.size w w' := by
  have hu96 := Try.underlying96
  have HR1 := Aside0.mk hr1
  have HC1 := Aside0.mk hc1
  clear hr1 hc1
  have HB := Aside0.mk (Below.refl w.heap.size w)
  have H : ((bitmap_New.f a0).bind fun bt549 => ((revetmentref19_New.f a0).bind fun t553 => (revetmentlaw19_play.l0 k l1 t553 0 bt549.1 bt549.2))) = some (r1, r2, r3) := h
  clear h
  replace H := Option.bind_eq_some_iff.mp H
  obtain ⟨⟨t549, t552⟩, A30, H⟩ := H
  replace H : ((revetmentref19_New.f a0).bind fun t553 => (revetmentlaw19_play.l0 k l1 t553 0 t549 t552)) = some (r1, r2, r3) := H
  have A3 := Aside0.mk A30
  clear A30
  replace H := Option.bind_eq_some_iff.mp H
  obtain ⟨t553, A40, H⟩ := H
  replace H : (revetmentlaw19_play.l0 k l1 t553 0 t549 t552) = some (r1, r2, r3) := H
  have A4 := Aside0.mk A40
  clear A40
  have H' := Aside0.mk H
  clear H
  go_enter Try.func61, Try.ntmps61
  go_wp2_with (first | ((with_reducible refine gate_dst (N := 4) rfl ?_); refine box_event ?hg (N := 4) ?hd (cs := #[.slice none 0 0, .int .i64 0]) (t := 96) ?hr ?_; (case hd => rfl); (case hg => rfl); (case hr => first | (go_simp; done) | (go_simp; rfl)); intro gb548 hg w5 hbox hb; have n0_ := Aside0.mk (below_step (by repeat (first | (with_reducible first | exact HB.out | apply below_alloc | apply pw_below_drewN | apply below_drew1) | exact HB.out)) hb); have n1_ := Aside0.mk (hbox); have n2_ := Aside0.mk ((by rw [hg]; exact (below_size (by repeat (first | (with_reducible first | exact HB.out | apply below_alloc | apply pw_below_drewN | apply below_drew1) | exact HB.out))) : w.heap.size ≤ gb548)); have n3_ := Aside0.mk ((by rw [hg]; exact (below_size (by repeat (first | (with_reducible first | exact HB.out | apply below_alloc | apply pw_below_drewN | apply below_drew1) | exact HB.out))) : w.heap.size ≤ gb548)); clear HB; have HB := n0_; have BK548 := n1_; have GW548 := n2_; have GE548 := n3_; clear n0_ n1_ n2_ n3_; clear hb hbox hg) | ((with_reducible refine gate_callee (f := 58) rfl ?_); refine goesL_ (some 10) rfl rfl Try.func58 (by kernel_rfl) rfl #[.int .i64 a0] rfl (by (try simp only [List.map_toArray, List.map_cons, List.map_nil]); first | done | rfl | (simp only [List.length_drop, List.length_take]; rfl)) ?_; (with_reducible refine (bitmap_New.calls a0 t549 t552 _ A3.out).mono ?_); rintro e w6 ⟨v550, rfl, ho0, hb⟩; refine ⟨_, rfl, ?_⟩; have n0_ := Aside0.mk (Kd.R_lower ho0 (below_size (by repeat (first | (with_reducible first | exact HB.out | apply below_alloc | apply pw_below_drewN | apply below_drew1 | refine below_set ?_ GE548.out) | exact HB.out)))); have n1_ := Aside0.mk (blk_below (g := gb548) (o := .cells #[.slice none 0 0, .int .i64 0] 96 (0, 0)) (by (with_reducible repeat (first | refine blk_drewN ?_ _ | refine blk_drew ?_ | refine blk_alloc ?_ _)); exact BK548.out) hb); have n2_ := Aside0.mk (below_step (by repeat (first | (with_reducible first | exact HB.out | apply below_alloc | apply pw_below_drewN | apply below_drew1 | refine below_set ?_ GE548.out) | exact HB.out)) hb); clear BK548; clear HB; have HO551 := n0_; have BK548 := n1_; have HB := n2_; clear n0_ n1_ n2_; (try clear hb); (try clear hb2); (try clear hk); (try clear hi); (try clear ho0)) | ((with_reducible refine gate_callee (f := 59) rfl ?_); refine goesL_ (some 12) rfl rfl Try.func59 (by kernel_rfl) rfl #[.int .i64 a0] rfl (by (try simp only [List.map_toArray, List.map_cons, List.map_nil]); first | done | rfl | (simp only [List.length_drop, List.length_take]; rfl)) ?_; (with_reducible refine (revetmentref19_New.calls a0 t553 _ A4.out).mono ?_); rintro e w7 ⟨v554, rfl, ho0, hb⟩; refine ⟨_, rfl, ?_⟩; have n0_ := Aside0.mk (Kd.R_below (by (with_reducible repeat (first | apply Kd.R_alloc | apply Kd.R_drewN | apply Kd.R_drew)); exact HO551.out) hb); have n1_ := Aside0.mk (Kd.R_lower ho0 (below_size (by repeat (first | (with_reducible first | exact HB.out | apply below_alloc | apply pw_below_drewN | apply below_drew1 | refine below_set ?_ GE548.out) | exact HB.out)))); have n2_ := Aside0.mk (blk_below (g := gb548) (o := .cells #[.slice none 0 0, .int .i64 0] 96 (0, 0)) (by (with_reducible repeat (first | refine blk_drewN ?_ _ | refine blk_drew ?_ | refine blk_alloc ?_ _)); exact BK548.out) hb); have n3_ := Aside0.mk (below_step (by repeat (first | (with_reducible first | exact HB.out | apply below_alloc | apply pw_below_drewN | apply below_drew1 | refine below_set ?_ GE548.out) | exact HB.out)) hb); clear HO551; clear BK548; clear HB; have HO551 := n0_; have HO555 := n1_; have BK548 := n2_; have HB := n3_; clear n0_ n1_ n2_ n3_; (try clear hb); (try clear hb2); (try clear hk); (try clear hi); (try clear ho0)) | ((with_reducible refine gate_dst (N := 6) rfl ?_); refine box_event ?hg (N := 6) ?hd (cs := #[.slice none 0 0, .int .i64 0]) (t := 96) ?hr ?_; (case hd => rfl); (case hg => rfl); (case hr => first | (go_simp; done) | (go_simp; rfl)); intro gb556 hg w8 hbox hb; have n0_ := Aside0.mk (Kd.R_below (by (with_reducible repeat (first | apply Kd.R_alloc | apply Kd.R_drewN | apply Kd.R_drew)); exact HO551.out) hb); have n1_ := Aside0.mk (Kd.R_below (by (with_reducible repeat (first | apply Kd.R_alloc | apply Kd.R_drewN | apply Kd.R_drew)); exact HO555.out) hb); have n2_ := Aside0.mk (blk_below (g := gb548) (o := .cells #[.slice none 0 0, .int .i64 0] 96 (0, 0)) (by (with_reducible repeat (first | refine blk_drewN ?_ _ | refine blk_drew ?_ | refine blk_alloc ?_ _)); exact BK548.out) hb); have n3_ := Aside0.mk (below_step (by repeat (first | (with_reducible first | exact HB.out | apply below_alloc | apply pw_below_drewN | apply below_drew1 | refine below_set ?_ GE548.out) | exact HB.out)) hb); have n4_ := Aside0.mk (hbox); have n5_ := Aside0.mk ((by rw [hg]; exact (below_size (by repeat (first | (with_reducible first | exact HB.out | apply below_alloc | apply pw_below_drewN | apply below_drew1 | refine below_set ?_ GE548.out) | exact HB.out))) : w.heap.size ≤ gb556)); have n6_ := Aside0.mk ((by rw [hg]; exact (below_size (by repeat (first | (with_reducible first | exact HB.out | apply below_alloc | apply pw_below_drewN | apply below_drew1 | refine below_set ?_ GE548.out) | exact HB.out))) : w.heap.size ≤ gb556)); have n7_ := Aside0.mk ((by rw [hg]; exact Nat.ne_of_lt (blk_lt (g := gb548) (o := .cells #[.slice none 0 0, .int .i64 0] 96 (0, 0)) (by (with_reducible repeat (first | refine blk_drewN ?_ _ | refine blk_drew ?_ | refine blk_alloc ?_ _)); exact BK548.out)) : gb548 ≠ gb556)); have n8_ := Aside0.mk ((by rw [hg]; exact Nat.ne_of_gt (blk_lt (g := gb548) (o := .cells #[.slice none 0 0, .int .i64 0] 96 (0, 0)) (by (with_reducible repeat (first | refine blk_drewN ?_ _ | refine blk_drew ?_ | refine blk_alloc ?_ _)); exact BK548.out)) : gb556 ≠ gb548)); clear HO551; clear HO555; clear BK548; clear HB; have HO551 := n0_; have HO555 := n1_; have BK548 := n2_; have HB := n3_; have BK556 := n4_; have GW556 := n5_; have GE556 := n6_; have NB548_556 := n7_; have NB556_548 := n8_; clear n0_ n1_ n2_ n3_ n4_ n5_ n6_ n7_ n8_; clear hb hbox hg; obtain ⟨Ao9, co9, eo9⟩ := Kd.R_slice HO551.out; subst eo9; have hnb10 := NB556_548.out; have hnc10 := NB548_556.out; have hcz11_0 : w8.cell? ⟨gb556, 0, none⟩ = some (.slice none 0 0) := (blk_cell BK556.out 0).trans rfl; have hcz11_1 : w8.cell? ⟨gb556, 1, none⟩ = some (.int .i64 0) := (blk_cell BK556.out 1).trans rfl; have hfz11_0 := blk_frozen BK556.out 0; have hfz11_1 := blk_frozen BK556.out 1))
  go_loopg [7, 8] k (fun kq v7 v8 w' => ∃ (x7_1 : List Bool) (x8_1 : Int) (x557000_1 : List Int) (x557001_1 : Int) (u557000 : Value), v8 = .int .i64 x8_1 ∧ Aside0 (revetmentlaw19_play.l0 kq l1 x7_1 x8_1 x557000_1 x557001_1 = some (r1, r2, r3)) ∧ Aside0 (kq ≤ k) ∧ Aside0 (Kd.R Kd.bool 4 w' w.heap.size (fun _ => True) v7 x7_1) ∧ Aside0 (Kd.R (Kd.int .u64) 162 w' w.heap.size (fun _ => True) u557000 x557000_1) ∧ Aside0 (w'.heap[gb548]? = some (.cells #[(.slice none 0 0), .int .i64 0] 96 (0, 0))) ∧ Aside0 (w'.heap[gb556]? = some (.cells #[u557000, .int .i64 x557001_1] 96 (0, 0))) ∧ Aside0 (Below w.heap.size w w'))
  case atStart => exact ⟨(t553), (0), (t549), (t552), (.slice Ao9 t549.length co9), (by first | rfl | (simp; done) | (simp [*]; done)), H', ⟨Nat.le_refl _⟩, ⟨by (with_reducible repeat (first | apply Kd.R_alloc | apply Kd.R_drewN | apply Kd.R_drew)); exact Kd.R_mono (Kd.R_far (p := ⟨gb556, 1, none⟩) (Kd.R_far (p := ⟨gb556, 0, none⟩) (Kd.R_types HO555.out BK556.out (by decide)) (fun _ hk => hk.2) (.slice Ao9 t549.length co9)) (fun _ hk => hk.2) (.int .i64 t552)) (fun _ hk => trivial)⟩, ⟨by (with_reducible repeat (first | apply Kd.R_alloc | apply Kd.R_drewN | apply Kd.R_drew)); exact Kd.R_mono (Kd.R_far (p := ⟨gb556, 1, none⟩) (Kd.R_far (p := ⟨gb556, 0, none⟩) (Kd.R_types HO551.out BK556.out (by decide)) (fun _ hk => hk.2) (.slice Ao9 t549.length co9)) (fun _ hk => hk.2) (.int .i64 t552)) (fun _ hk => trivial)⟩, ⟨by (with_reducible repeat (first | refine blk_drewN ?_ _ | refine blk_drew ?_ | refine blk_alloc ?_ _)); refine blk_far ?_ NB548_556.out _; (with_reducible repeat (first | refine blk_drewN ?_ _ | refine blk_drew ?_ | refine blk_alloc ?_ _)); refine blk_far ?_ NB548_556.out _; (with_reducible repeat (first | refine blk_drewN ?_ _ | refine blk_drew ?_ | refine blk_alloc ?_ _)); exact BK548.out⟩, ⟨by (with_reducible repeat (first | refine blk_drewN ?_ _ | refine blk_drew ?_ | refine blk_alloc ?_ _)); refine blk_put (cs := #[.slice Ao9 t549.length co9, .int .i64 0]) ?_ 1 _ rfl; (with_reducible repeat (first | refine blk_drewN ?_ _ | refine blk_drew ?_ | refine blk_alloc ?_ _)); refine blk_put (cs := #[.slice none 0 0, .int .i64 0]) ?_ 0 _ rfl; (with_reducible repeat (first | refine blk_drewN ?_ _ | refine blk_drew ?_ | refine blk_alloc ?_ _)); exact BK556.out⟩, ⟨by repeat (first | (with_reducible first | exact HB.out | apply below_alloc | apply pw_below_drewN | apply below_drew1 | refine below_set ?_ GE548.out | refine below_set ?_ GE556.out) | exact HB.out)⟩⟩
  case round =>
    clear H'
    try clear c1
    try clear p2
    try clear c5
    try clear c6
    try clear c10
    try clear hcz11_0
    try clear hcz11_1
    try clear hfz11_0
    try clear hfz11_1
    obtain ⟨x7_1, x8_1, x557000_1, x557001_1, u557000, rfl, HA, HK1, HO_7, HO_557000, BK548, BK556, HB⟩ := hrel
    cases gk with
    | zero => exact absurd HA.out (by simp [revetmentlaw19_play.l0])
    | succ k1 =>
      have H := HA.out
      clear HA
      simp only [revetmentlaw19_play.l0] at H
      by_cases c12 : x8_1 < (l1.length : Int)
      · rw [if_pos c12] at H
        have c12b0 : decide (x8_1 < (l1.length : Int)) = true := decide_eq_true c12
        clear c12
        by_cases c13 : 0 ≤ x8_1
        · rw [if_pos c13] at H
          have c13b0 : decide (0 ≤ x8_1) = true := decide_eq_true c13
          clear c13
          by_cases c14 : ((rd_T102 l1 x8_1).f0) = 0
          · rw [if_pos c14] at H
            have c14b0 : (((rd_T102 l1 x8_1).f0) == 0) = true := beq_iff_eq.mpr c14
            have c14b1 : (((rd_T102 l1 x8_1).f0) != 0) = false := bne_eq_false_iff_eq.mpr c14
            clear c14
            replace H := Option.bind_eq_some_iff.mp H
            obtain ⟨⟨t560, t563⟩, A150, H⟩ := H
            replace H : ((revetmentref19_Set.f k1 x7_1 ((rd_T102 l1 x8_1).f1) ((rd_T102 l1 x8_1).f2)).bind fun t566 => (revetmentlaw19_play.l0 k1 l1 t566 (wrap64 (x8_1 + 1)) t560 t563)) = some (r1, r2, r3) := H
            have A15 := Aside0.mk A150
            clear A150
            replace H := Option.bind_eq_some_iff.mp H
            obtain ⟨t566, A160, H⟩ := H
            replace H : (revetmentlaw19_play.l0 k1 l1 t566 (wrap64 (x8_1 + 1)) t560 t563) = some (r1, r2, r3) := H
            have A16 := Aside0.mk A160
            clear A160
            have H' := Aside0.mk H
            clear H
            have p557 : 0 ≤ (x8_1 : Int) := of_decide_eq_true (by first | (with_reducible assumption) | assumption)
            have q557 : x8_1 < (l1.length : Int) := of_decide_eq_true (by first | (with_reducible assumption) | assumption)
            obtain ⟨ad557, A557_2, c557_2, e557, hx557_0, hx557_1, hx557_2, hx557_3, hx557_4, hl557_2, hi557_2⟩ := at_T102 HR1.out x8_1 p557 q557
            cases e557
            replace hx557_0 := (HB.out.cell (World.block_lt_of_cell? w _ hx557_0)).trans hx557_0
            replace hx557_1 := (HB.out.cell (World.block_lt_of_cell? w _ hx557_1)).trans hx557_1
            replace hx557_2 := (HB.out.cell (World.block_lt_of_cell? w _ hx557_2)).trans hx557_2
            replace hx557_3 := (HB.out.cell (World.block_lt_of_cell? w _ hx557_3)).trans hx557_3
            replace hx557_4 := (HB.out.cell (World.block_lt_of_cell? w _ hx557_4)).trans hx557_4
            have HR557_2 := Aside0.mk hi557_2
            have HC557_2 := Aside0.mk hl557_2
            clear hi557_2 hl557_2
            replace p557 := eq_true p557
            replace q557 := eq_true q557
            try go_wp2
            have n0_ := Aside0.mk (Kd.R_drew HO_7.out)
            have n1_ := Aside0.mk (Kd.R_drew HO_557000.out)
            have n2_ := Aside0.mk (blk_drew BK548.out)
            have n3_ := Aside0.mk (blk_drew BK556.out)
            have n4_ := Aside0.mk (below_drew1 HB.out)
            clear HO_7
            clear HO_557000
            clear BK548
            clear BK556
            clear HB
            have HO_7 := n0_
            have HO_557000 := n1_
            have BK548 := n2_
            have BK556 := n3_
            have HB := n4_
            clear n0_ n1_ n2_ n3_ n4_
            have p558 : 0 ≤ (x8_1 : Int) := of_decide_eq_true (by first | (with_reducible assumption) | assumption)
            have q558 : x8_1 < (l1.length : Int) := of_decide_eq_true (by first | (with_reducible assumption) | assumption)
            obtain ⟨ad558, A558_2, c558_2, e558, hx558_0, hx558_1, hx558_2, hx558_3, hx558_4, hl558_2, hi558_2⟩ := at_T102 HR1.out x8_1 p558 q558
            have hw558_4 := hx558_4
            have hw558_3 := hx558_3
            have hw558_2 := hx558_2
            have hw558_1 := hx558_1
            have hw558_0 := hx558_0
            obtain rfl : ad557 = ad558 := (by injection e558)
            replace hx558_0 := (HB.out.cell (World.block_lt_of_cell? w _ hx558_0)).trans hx558_0
            replace hx558_1 := (HB.out.cell (World.block_lt_of_cell? w _ hx558_1)).trans hx558_1
            replace hx558_2 := (HB.out.cell (World.block_lt_of_cell? w _ hx558_2)).trans hx558_2
            replace hx558_3 := (HB.out.cell (World.block_lt_of_cell? w _ hx558_3)).trans hx558_3
            replace hx558_4 := (HB.out.cell (World.block_lt_of_cell? w _ hx558_4)).trans hx558_4
            have HR558_2 := Aside0.mk hi558_2
            have HC558_2 := Aside0.mk hl558_2
            clear hi558_2 hl558_2
            replace p558 := eq_true p558
            replace q558 := eq_true q558
            have p559 : 0 ≤ (x8_1 : Int) := of_decide_eq_true (by first | (with_reducible assumption) | assumption)
            have q559 : x8_1 < (l1.length : Int) := of_decide_eq_true (by first | (with_reducible assumption) | assumption)
            obtain ⟨ad559, A559_2, c559_2, e559, hx559_0, hx559_1, hx559_2, hx559_3, hx559_4, hl559_2, hi559_2⟩ := at_T102 HR1.out x8_1 p559 q559
            have hw559_4 := hx559_4
            have hw559_3 := hx559_3
            have hw559_2 := hx559_2
            have hw559_1 := hx559_1
            have hw559_0 := hx559_0
            obtain rfl : ad557 = ad559 := (by injection e559)
            replace hx559_0 := (HB.out.cell (World.block_lt_of_cell? w _ hx559_0)).trans hx559_0
            replace hx559_1 := (HB.out.cell (World.block_lt_of_cell? w _ hx559_1)).trans hx559_1
            replace hx559_2 := (HB.out.cell (World.block_lt_of_cell? w _ hx559_2)).trans hx559_2
            replace hx559_3 := (HB.out.cell (World.block_lt_of_cell? w _ hx559_3)).trans hx559_3
            replace hx559_4 := (HB.out.cell (World.block_lt_of_cell? w _ hx559_4)).trans hx559_4
            have HR559_2 := Aside0.mk hi559_2
            have HC559_2 := Aside0.mk hl559_2
            clear hi559_2 hl559_2
            replace p559 := eq_true p559
            replace q559 := eq_true q559
            have ea_ := Option.some.inj (hx558_2.symm.trans hx559_2)
            injection ea_ with ea_ en_ ec_
            subst ea_
            subst ec_
            clear en_
            have p564 : 0 ≤ (x8_1 : Int) := of_decide_eq_true (by first | (with_reducible assumption) | assumption)
            have q564 : x8_1 < (l1.length : Int) := of_decide_eq_true (by first | (with_reducible assumption) | assumption)
            obtain ⟨ad564, A564_2, c564_2, e564, hx564_0, hx564_1, hx564_2, hx564_3, hx564_4, hl564_2, hi564_2⟩ := at_T102 HR1.out x8_1 p564 q564
            have hw564_4 := hx564_4
            have hw564_3 := hx564_3
            have hw564_2 := hx564_2
            have hw564_1 := hx564_1
            have hw564_0 := hx564_0
            obtain rfl : ad557 = ad564 := (by injection e564)
            replace hx564_0 := (HB.out.cell (World.block_lt_of_cell? w _ hx564_0)).trans hx564_0
            replace hx564_1 := (HB.out.cell (World.block_lt_of_cell? w _ hx564_1)).trans hx564_1
            replace hx564_2 := (HB.out.cell (World.block_lt_of_cell? w _ hx564_2)).trans hx564_2
            replace hx564_3 := (HB.out.cell (World.block_lt_of_cell? w _ hx564_3)).trans hx564_3
            replace hx564_4 := (HB.out.cell (World.block_lt_of_cell? w _ hx564_4)).trans hx564_4
            have HR564_2 := Aside0.mk hi564_2
            have HC564_2 := Aside0.mk hl564_2
            clear hi564_2 hl564_2
            replace p564 := eq_true p564
            replace q564 := eq_true q564
            have ea_ := Option.some.inj (hx558_2.symm.trans hx564_2)
            injection ea_ with ea_ en_ ec_
            subst ea_
            subst ec_
            clear en_
            have p565 : 0 ≤ (x8_1 : Int) := of_decide_eq_true (by first | (with_reducible assumption) | assumption)
            have q565 : x8_1 < (l1.length : Int) := of_decide_eq_true (by first | (with_reducible assumption) | assumption)
            obtain ⟨ad565, A565_2, c565_2, e565, hx565_0, hx565_1, hx565_2, hx565_3, hx565_4, hl565_2, hi565_2⟩ := at_T102 HR1.out x8_1 p565 q565
            have hw565_4 := hx565_4
            have hw565_3 := hx565_3
            have hw565_2 := hx565_2
            have hw565_1 := hx565_1
            have hw565_0 := hx565_0
            obtain rfl : ad557 = ad565 := (by injection e565)
            replace hx565_0 := (HB.out.cell (World.block_lt_of_cell? w _ hx565_0)).trans hx565_0
            replace hx565_1 := (HB.out.cell (World.block_lt_of_cell? w _ hx565_1)).trans hx565_1
            replace hx565_2 := (HB.out.cell (World.block_lt_of_cell? w _ hx565_2)).trans hx565_2
            replace hx565_3 := (HB.out.cell (World.block_lt_of_cell? w _ hx565_3)).trans hx565_3
            replace hx565_4 := (HB.out.cell (World.block_lt_of_cell? w _ hx565_4)).trans hx565_4
            have HR565_2 := Aside0.mk hi565_2
            have HC565_2 := Aside0.mk hl565_2
            clear hi565_2 hl565_2
            replace p565 := eq_true p565
            replace q565 := eq_true q565
            have ea_ := Option.some.inj (hx558_2.symm.trans hx565_2)
            injection ea_ with ea_ en_ ec_
            subst ea_
            subst ec_
            clear en_
            obtain ⟨Ao18, co18, eo18⟩ := Kd.R_slice HO_557000.out
            (first | subst eo18 | (injection eo18 with f1_ f2_ f3_; have f4_ := f1_.symm; have f5_ := f3_.symm; clear f1_ f2_ f3_; subst f4_; subst f5_))
            refine start_ (n := 26) (S := fun w' => w'.cell? ⟨gb556, 0, none⟩ = some (.slice Ao18 x557000_1.length co18) ∧ w'.cell? ⟨gb556, 1, none⟩ = some (.int .i64 x557001_1) ∧ w'.cell? (ad557.add ((x8_1).toNat * 5)) = some (.int .i64 ((rd_T102 l1 x8_1).f0)) ∧ w'.cell? ⟨(ad557.add ((x8_1).toNat * 5)).block, (ad557.add ((x8_1).toNat * 5)).off + 1, none⟩ = some (.bool ((rd_T102 l1 x8_1).f1)) ∧ w'.cell? ⟨(ad557.add ((x8_1).toNat * 5)).block, (ad557.add ((x8_1).toNat * 5)).off + 2, none⟩ = some (.slice A558_2 ((rd_T102 l1 x8_1).f2).length c558_2) ∧ w'.cell? ⟨(ad557.add ((x8_1).toNat * 5)).block, (ad557.add ((x8_1).toNat * 5)).off + 3, none⟩ = some (.int .i64 ((rd_T102 l1 x8_1).f3)) ∧ w'.cell? ⟨(ad557.add ((x8_1).toNat * 5)).block, (ad557.add ((x8_1).toNat * 5)).off + 4, none⟩ = some (.int .i64 ((rd_T102 l1 x8_1).f4)) ∧ w'.cell? (ad557.add ((x8_1).toNat * 5)) = some (.int .i64 ((rd_T102 l1 x8_1).f0)) ∧ w'.cell? ⟨(ad557.add ((x8_1).toNat * 5)).block, (ad557.add ((x8_1).toNat * 5)).off + 1, none⟩ = some (.bool ((rd_T102 l1 x8_1).f1)) ∧ w'.cell? ⟨(ad557.add ((x8_1).toNat * 5)).block, (ad557.add ((x8_1).toNat * 5)).off + 2, none⟩ = some (.slice A558_2 ((rd_T102 l1 x8_1).f2).length c558_2) ∧ w'.cell? ⟨(ad557.add ((x8_1).toNat * 5)).block, (ad557.add ((x8_1).toNat * 5)).off + 3, none⟩ = some (.int .i64 ((rd_T102 l1 x8_1).f3)) ∧ w'.cell? ⟨(ad557.add ((x8_1).toNat * 5)).block, (ad557.add ((x8_1).toNat * 5)).off + 4, none⟩ = some (.int .i64 ((rd_T102 l1 x8_1).f4)) ∧ w'.cell? (ad557.add ((x8_1).toNat * 5)) = some (.int .i64 ((rd_T102 l1 x8_1).f0)) ∧ w'.cell? ⟨(ad557.add ((x8_1).toNat * 5)).block, (ad557.add ((x8_1).toNat * 5)).off + 1, none⟩ = some (.bool ((rd_T102 l1 x8_1).f1)) ∧ w'.cell? ⟨(ad557.add ((x8_1).toNat * 5)).block, (ad557.add ((x8_1).toNat * 5)).off + 2, none⟩ = some (.slice A558_2 ((rd_T102 l1 x8_1).f2).length c558_2) ∧ w'.cell? ⟨(ad557.add ((x8_1).toNat * 5)).block, (ad557.add ((x8_1).toNat * 5)).off + 3, none⟩ = some (.int .i64 ((rd_T102 l1 x8_1).f3)) ∧ w'.cell? ⟨(ad557.add ((x8_1).toNat * 5)).block, (ad557.add ((x8_1).toNat * 5)).off + 4, none⟩ = some (.int .i64 ((rd_T102 l1 x8_1).f4)) ∧ w'.cell? (ad557.add ((x8_1).toNat * 5)) = some (.int .i64 ((rd_T102 l1 x8_1).f0)) ∧ w'.cell? ⟨(ad557.add ((x8_1).toNat * 5)).block, (ad557.add ((x8_1).toNat * 5)).off + 1, none⟩ = some (.bool ((rd_T102 l1 x8_1).f1)) ∧ w'.cell? ⟨(ad557.add ((x8_1).toNat * 5)).block, (ad557.add ((x8_1).toNat * 5)).off + 2, none⟩ = some (.slice A558_2 ((rd_T102 l1 x8_1).f2).length c558_2) ∧ w'.cell? ⟨(ad557.add ((x8_1).toNat * 5)).block, (ad557.add ((x8_1).toNat * 5)).off + 3, none⟩ = some (.int .i64 ((rd_T102 l1 x8_1).f3)) ∧ w'.cell? ⟨(ad557.add ((x8_1).toNat * 5)).block, (ad557.add ((x8_1).toNat * 5)).off + 4, none⟩ = some (.int .i64 ((rd_T102 l1 x8_1).f4))) (ds := [24]) #[false, false, false, false, false, false, false, false, false, false, false, false, false, false, false, false, false, false, false, false, false, false, false, false, false, false] (by kernel_rfl) rfl rfl ⟨(blk_cell BK556.out 0).trans rfl, (blk_cell BK556.out 1).trans rfl, ((HB.out.cell (World.block_lt_of_cell? w _ hw558_0)).trans hw558_0), ((HB.out.cell (World.block_lt_of_cell? w _ hw558_1)).trans hw558_1), ((HB.out.cell (World.block_lt_of_cell? w _ hw558_2)).trans hw558_2), ((HB.out.cell (World.block_lt_of_cell? w _ hw558_3)).trans hw558_3), ((HB.out.cell (World.block_lt_of_cell? w _ hw558_4)).trans hw558_4), ((HB.out.cell (World.block_lt_of_cell? w _ hw559_0)).trans hw559_0), ((HB.out.cell (World.block_lt_of_cell? w _ hw559_1)).trans hw559_1), ((HB.out.cell (World.block_lt_of_cell? w _ hw559_2)).trans hw559_2), ((HB.out.cell (World.block_lt_of_cell? w _ hw559_3)).trans hw559_3), ((HB.out.cell (World.block_lt_of_cell? w _ hw559_4)).trans hw559_4), ((HB.out.cell (World.block_lt_of_cell? w _ hw564_0)).trans hw564_0), ((HB.out.cell (World.block_lt_of_cell? w _ hw564_1)).trans hw564_1), ((HB.out.cell (World.block_lt_of_cell? w _ hw564_2)).trans hw564_2), ((HB.out.cell (World.block_lt_of_cell? w _ hw564_3)).trans hw564_3), ((HB.out.cell (World.block_lt_of_cell? w _ hw564_4)).trans hw564_4), ((HB.out.cell (World.block_lt_of_cell? w _ hw565_0)).trans hw565_0), ((HB.out.cell (World.block_lt_of_cell? w _ hw565_1)).trans hw565_1), ((HB.out.cell (World.block_lt_of_cell? w _ hw565_2)).trans hw565_2), ((HB.out.cell (World.block_lt_of_cell? w _ hw565_3)).trans hw565_3), ((HB.out.cell (World.block_lt_of_cell? w _ hw565_4)).trans hw565_4)⟩ (fun hHeld => ?_); refine with_tabW revetmentlaw19_play.tab6 revetmentlaw19_play.bits6 (fun HT_ HW_ => ?_)
            generalize wr.drew = w17 at HO_7 HO_557000 BK548 BK556 HB HR558_2 HR559_2 HR564_2 HR565_2 hx558_0 hx558_1 hx558_2 hx558_3 hx558_4 hx559_0 hx559_1 hx559_2 hx559_3 hx559_4 hx564_0 hx564_1 hx564_2 hx564_3 hx564_4 hx565_0 hx565_1 hx565_2 hx565_3 hx565_4 hHeld ⊢
            refine pure_ (i := 1) (N := some 26) (v := ?_) (a' := ?_) #[false, true, false, false, false, false, false, false, false, false, false, false, false, false, false, false, false, false, false, false, false, false, false, false, false, false] rfl rfl (any_of HT_.out (by kernel_rfl)) (fun _ _ _ h => h) (Or.inl ⟨by rfl, ?_⟩) ?_ ?_
            rotate_left
            · intro w'
              go_simp
              with_reducible rfl
            rotate_left
            · simp only [Act.put, List.setIfInBounds_toArray, List.set_cons_zero, List.set_cons_succ, i64_w, i32_w]
              rfl
            refine pure_ (i := 2) (N := some 27) (v := ?_) (a' := ?_) #[false, true, true, false, false, false, false, false, false, false, false, false, false, false, false, false, false, false, false, false, false, false, false, false, false, false] rfl rfl (any_of HT_.out (by kernel_rfl)) (fun _ _ _ h => h) (Or.inl ⟨by rfl, ?_⟩) ?_ ?_
            rotate_left
            · intro w'
              go_simp
              with_reducible rfl
            rotate_left
            · simp only [Act.put, List.setIfInBounds_toArray, List.set_cons_zero, List.set_cons_succ, i64_w, i32_w]
              rfl
            refine pure_ (i := 3) (N := some 28) (v := ?_) (a' := ?_) #[false, true, true, true, false, false, false, false, false, false, false, false, false, false, false, false, false, false, false, false, false, false, false, false, false, false] rfl rfl (any_of HT_.out (by kernel_rfl)) (fun _ _ _ h => h) (Or.inl ⟨by rfl, ?_⟩) ?_ ?_
            rotate_left
            · intro w'
              go_simp
              with_reducible rfl
            rotate_left
            · simp only [Act.put, List.setIfInBounds_toArray, List.set_cons_zero, List.set_cons_succ, i64_w, i32_w]
              rfl
            refine pure_ (i := 4) (N := some 29) (v := ?_) (a' := ?_) #[false, true, true, true, true, false, false, false, false, false, false, false, false, false, false, false, false, false, false, false, false, false, false, false, false, false] rfl rfl (any_of HT_.out (by kernel_rfl)) (fun _ _ _ h => h) (Or.inl ⟨by rfl, ?_⟩) ?_ ?_
            rotate_left
            · intro w'
              go_simp
              with_reducible rfl
            rotate_left
            · simp only [Act.put, List.setIfInBounds_toArray, List.set_cons_zero, List.set_cons_succ, i64_w, i32_w]
              rfl
            refine pure_ (i := 6) (N := some 31) (v := ?_) (a' := ?_) #[false, true, true, true, true, false, true, false, false, false, false, false, false, false, false, false, false, false, false, false, false, false, false, false, false, false] rfl rfl (any_of HT_.out (by kernel_rfl)) (fun _ _ _ h => h) (Or.inl ⟨by rfl, ?_⟩) ?_ ?_
            rotate_left
            · intro w'
              go_simp
              with_reducible rfl
            rotate_left
            · simp only [Act.put, List.setIfInBounds_toArray, List.set_cons_zero, List.set_cons_succ, i64_w, i32_w]
              rfl
            refine pure_ (i := 7) (N := some 32) (v := ?_) (a' := ?_) #[false, true, true, true, true, false, true, true, false, false, false, false, false, false, false, false, false, false, false, false, false, false, false, false, false, false] rfl rfl (any_of HT_.out (by kernel_rfl)) (fun _ _ _ h => h) (Or.inl ⟨by rfl, ?_⟩) ?_ ?_
            rotate_left
            · intro w'
              go_simp
              with_reducible rfl
            rotate_left
            · simp only [Act.put, List.setIfInBounds_toArray, List.set_cons_zero, List.set_cons_succ, i64_w, i32_w]
              rfl
            refine pure_ (i := 8) (N := some 33) (v := ?_) (a' := ?_) #[false, true, true, true, true, false, true, true, true, false, false, false, false, false, false, false, false, false, false, false, false, false, false, false, false, false] rfl rfl (any_of HT_.out (by kernel_rfl)) (fun _ _ _ h => h) (Or.inl ⟨by rfl, ?_⟩) ?_ ?_
            rotate_left
            · intro w'
              go_simp
              with_reducible rfl
            rotate_left
            · simp only [Act.put, List.setIfInBounds_toArray, List.set_cons_zero, List.set_cons_succ, i64_w, i32_w]
              rfl
            refine pure_ (i := 9) (N := some 34) (v := ?_) (a' := ?_) #[false, true, true, true, true, false, true, true, true, true, false, false, false, false, false, false, false, false, false, false, false, false, false, false, false, false] rfl rfl (any_of HT_.out (by kernel_rfl)) (fun _ _ _ h => h) (Or.inl ⟨by rfl, ?_⟩) ?_ ?_
            rotate_left
            · intro w'
              go_simp
              with_reducible rfl
            rotate_left
            · simp only [Act.put, List.setIfInBounds_toArray, List.set_cons_zero, List.set_cons_succ, i64_w, i32_w]
              rfl
            refine pure_ (i := 12) (N := some 37) (v := ?_) (a' := ?_) #[false, true, true, true, true, false, true, true, true, true, false, false, true, false, false, false, false, false, false, false, false, false, false, false, false, false] rfl rfl (any_of HT_.out (by kernel_rfl)) (fun _ _ _ h => h) (Or.inl ⟨by rfl, ?_⟩) ?_ ?_
            rotate_left
            · intro w'
              go_simp
              with_reducible rfl
            rotate_left
            · simp only [Act.put, List.setIfInBounds_toArray, List.set_cons_zero, List.set_cons_succ, i64_w, i32_w]
              rfl
            refine pure_ (i := 13) (N := some 38) (v := ?_) (a' := ?_) #[false, true, true, true, true, false, true, true, true, true, false, false, true, true, false, false, false, false, false, false, false, false, false, false, false, false] rfl rfl (any_of HT_.out (by kernel_rfl)) (fun _ _ _ h => h) (Or.inl ⟨by rfl, ?_⟩) ?_ ?_
            rotate_left
            · intro w'
              go_simp
              with_reducible rfl
            rotate_left
            · simp only [Act.put, List.setIfInBounds_toArray, List.set_cons_zero, List.set_cons_succ, i64_w, i32_w]
              rfl
            refine pure_ (i := 14) (N := some 39) (v := ?_) (a' := ?_) #[false, true, true, true, true, false, true, true, true, true, false, false, true, true, true, false, false, false, false, false, false, false, false, false, false, false] rfl rfl (any_of HT_.out (by kernel_rfl)) (fun _ _ _ h => h) (Or.inl ⟨by rfl, ?_⟩) ?_ ?_
            rotate_left
            · intro w'
              go_simp
              with_reducible rfl
            rotate_left
            · simp only [Act.put, List.setIfInBounds_toArray, List.set_cons_zero, List.set_cons_succ, i64_w, i32_w]
              rfl
            refine pure_ (i := 15) (N := some 40) (v := ?_) (a' := ?_) #[false, true, true, true, true, false, true, true, true, true, false, false, true, true, true, true, false, false, false, false, false, false, false, false, false, false] rfl rfl (any_of HT_.out (by kernel_rfl)) (fun _ _ _ h => h) (Or.inl ⟨by rfl, ?_⟩) ?_ ?_
            rotate_left
            · intro w'
              go_simp
              with_reducible rfl
            rotate_left
            · simp only [Act.put, List.setIfInBounds_toArray, List.set_cons_zero, List.set_cons_succ, i64_w, i32_w]
              rfl
            refine pure_ (i := 16) (N := some 41) (v := ?_) (a' := ?_) #[false, true, true, true, true, false, true, true, true, true, false, false, true, true, true, true, true, false, false, false, false, false, false, false, false, false] rfl rfl (any_of HT_.out (by kernel_rfl)) (fun _ _ _ h => h) (Or.inl ⟨by rfl, ?_⟩) ?_ ?_
            rotate_left
            · intro w'
              go_simp
              with_reducible rfl
            rotate_left
            · simp only [Act.put, List.setIfInBounds_toArray, List.set_cons_zero, List.set_cons_succ, i64_w, i32_w]
              rfl
            refine pure_ (i := 18) (N := some 43) (v := ?_) (a' := ?_) #[false, true, true, true, true, false, true, true, true, true, false, false, true, true, true, true, true, false, true, false, false, false, false, false, false, false] rfl rfl (any_of HT_.out (by kernel_rfl)) (fun _ _ _ h => h) (Or.inl ⟨by rfl, ?_⟩) ?_ ?_
            rotate_left
            · intro w'
              go_simp
              with_reducible rfl
            rotate_left
            · simp only [Act.put, List.setIfInBounds_toArray, List.set_cons_zero, List.set_cons_succ, i64_w, i32_w]
              rfl
            refine pure_ (i := 19) (N := some 44) (v := ?_) (a' := ?_) #[false, true, true, true, true, false, true, true, true, true, false, false, true, true, true, true, true, false, true, true, false, false, false, false, false, false] rfl rfl (any_of HT_.out (by kernel_rfl)) (fun _ _ _ h => h) (Or.inl ⟨by rfl, ?_⟩) ?_ ?_
            rotate_left
            · intro w'
              go_simp
              with_reducible rfl
            rotate_left
            · simp only [Act.put, List.setIfInBounds_toArray, List.set_cons_zero, List.set_cons_succ, i64_w, i32_w]
              rfl
            refine pure_ (i := 20) (N := some 45) (v := ?_) (a' := ?_) #[false, true, true, true, true, false, true, true, true, true, false, false, true, true, true, true, true, false, true, true, true, false, false, false, false, false] rfl rfl (any_of HT_.out (by kernel_rfl)) (fun _ _ _ h => h) (Or.inl ⟨by rfl, ?_⟩) ?_ ?_
            rotate_left
            · intro w'
              go_simp
              with_reducible rfl
            rotate_left
            · simp only [Act.put, List.setIfInBounds_toArray, List.set_cons_zero, List.set_cons_succ, i64_w, i32_w]
              rfl
            refine pure_ (i := 21) (N := some 46) (v := ?_) (a' := ?_) #[false, true, true, true, true, false, true, true, true, true, false, false, true, true, true, true, true, false, true, true, true, true, false, false, false, false] rfl rfl (any_of HT_.out (by kernel_rfl)) (fun _ _ _ h => h) (Or.inl ⟨by rfl, ?_⟩) ?_ ?_
            rotate_left
            · intro w'
              go_simp
              with_reducible rfl
            rotate_left
            · simp only [Act.put, List.setIfInBounds_toArray, List.set_cons_zero, List.set_cons_succ, i64_w, i32_w]
              rfl
            refine take_ (i := 0) (N := some 25) (v := ?_) (a' := ?_) #[true, true, true, true, true, false, true, true, true, true, false, false, true, true, true, true, true, false, true, true, true, true, false, false, false, false] rfl rfl (take_ofW HT_.out HW_.out (by kernel_rfl)) (fun _ _ _ h => h) (Or.inl ⟨by rfl, ?_⟩) hHeld ?_ ?_
            rotate_left
            · rintro w' ⟨s0, s1, s2, s3, s4, s5, s6, s7, s8, s9, s10, s11, s12, s13, s14, s15, s16, s17, s18, s19, s20, s21⟩
              go_simp
              with_reducible rfl
            rotate_left
            · simp only [Act.put, List.setIfInBounds_toArray, List.set_cons_zero, List.set_cons_succ, i64_w, i32_w]
              rfl
            refine take_ (i := 5) (N := some 30) (v := ?_) (a' := ?_) #[true, true, true, true, true, true, true, true, true, true, false, false, true, true, true, true, true, false, true, true, true, true, false, false, false, false] rfl rfl (take_ofW HT_.out HW_.out (by kernel_rfl)) (fun _ _ _ h => h) (Or.inl ⟨by rfl, ?_⟩) hHeld ?_ ?_
            rotate_left
            · rintro w' ⟨s0, s1, s2, s3, s4, s5, s6, s7, s8, s9, s10, s11, s12, s13, s14, s15, s16, s17, s18, s19, s20, s21⟩
              go_simp
              with_reducible rfl
            rotate_left
            · simp only [Act.put, List.setIfInBounds_toArray, List.set_cons_zero, List.set_cons_succ, i64_w, i32_w]
              rfl
            refine take_ (i := 10) (N := some 35) (v := ?_) (a' := ?_) #[true, true, true, true, true, true, true, true, true, true, true, false, true, true, true, true, true, false, true, true, true, true, false, false, false, false] rfl rfl (take_ofW HT_.out HW_.out (by kernel_rfl)) (fun _ _ _ h => h) (Or.inl ⟨by rfl, ?_⟩) hHeld ?_ ?_
            rotate_left
            · rintro w' ⟨s0, s1, s2, s3, s4, s5, s6, s7, s8, s9, s10, s11, s12, s13, s14, s15, s16, s17, s18, s19, s20, s21⟩
              go_simp
              with_reducible rfl
            rotate_left
            · simp only [Act.put, List.setIfInBounds_toArray, List.set_cons_zero, List.set_cons_succ, i64_w, i32_w]
              rfl
            refine take_ (i := 17) (N := some 42) (v := ?_) (a' := ?_) #[true, true, true, true, true, true, true, true, true, true, true, false, true, true, true, true, true, true, true, true, true, true, false, false, false, false] rfl rfl (take_ofW HT_.out HW_.out (by kernel_rfl)) (fun _ _ _ h => h) (Or.inl ⟨by rfl, ?_⟩) hHeld ?_ ?_
            rotate_left
            · rintro w' ⟨s0, s1, s2, s3, s4, s5, s6, s7, s8, s9, s10, s11, s12, s13, s14, s15, s16, s17, s18, s19, s20, s21⟩
              go_simp
              with_reducible rfl
            rotate_left
            · simp only [Act.put, List.setIfInBounds_toArray, List.set_cons_zero, List.set_cons_succ, i64_w, i32_w]
              rfl
            refine take_ (i := 22) (N := some 47) (v := ?_) (a' := ?_) #[true, true, true, true, true, true, true, true, true, true, true, false, true, true, true, true, true, true, true, true, true, true, true, false, false, false] rfl rfl (take_ofW HT_.out HW_.out (by kernel_rfl)) (fun _ _ _ h => h) (Or.inl ⟨by rfl, ?_⟩) hHeld ?_ ?_
            rotate_left
            · rintro w' ⟨s0, s1, s2, s3, s4, s5, s6, s7, s8, s9, s10, s11, s12, s13, s14, s15, s16, s17, s18, s19, s20, s21⟩
              go_simp
              with_reducible rfl
            rotate_left
            · simp only [Act.put, List.setIfInBounds_toArray, List.set_cons_zero, List.set_cons_succ, i64_w, i32_w]
              rfl
            refine one_ (i := 11) (N := some 36) #[true, true, true, true, true, true, true, true, true, true, true, true, true, true, true, true, true, true, true, true, true, true, true, false, false, false] rfl rfl (one_of HT_.out (by kernel_rfl)) (by decide) (fun K hK => ?_)
            refine goes_ Try.func115 (by kernel_rfl) rfl #[.agg #[.slice Ao18 x557000_1.length co18, .int .i64 x557001_1], .bool ((rd_T102 l1 x8_1).f1), .slice A558_2 ((rd_T102 l1 x8_1).f2).length c558_2] (by rfl) rfl rfl (by (try simp only [List.map_toArray, List.map_cons, List.map_nil]); first | done | rfl | (simp only [List.length_drop, List.length_take]; rfl)) ?_
            with_reducible refine (bitmap_Set.calls k1 _ _ x557000_1 x557001_1 ((rd_T102 l1 x8_1).f1) _ _ ((rd_T102 l1 x8_1).f2) t560 t563 _ ?side1 ?side2 ?side3 ?side4 A15.out).mono ?_
            (case side1 => repeat (first | exact (Kd.R_reads' HO_557000.out).2.2 | (with_reducible refine Kd.C_alloc ?_ _) | (with_reducible refine Kd.C_drewN ?_ _) | (with_reducible refine Kd.C_drew ?_)))
            (case side2 => exact (Kd.R_reads' HO_557000.out).2.1)
            (case side3 => repeat (first | exact (Kd.C_below HR559_2.out HB.out) | (with_reducible refine Kd.C_alloc ?_ _) | (with_reducible refine Kd.C_drewN ?_ _) | (with_reducible refine Kd.C_drew ?_)))
            (case side4 => exact HC559_2.out)
            rintro e w19 ⟨v561, rfl, ho0, hb⟩
            refine ⟨_, rfl, ?_⟩
            have n0_ := Aside0.mk (Kd.R_below (by (with_reducible repeat (first | apply Kd.R_alloc | apply Kd.R_drewN | apply Kd.R_drew)); exact HO_7.out) hb)
            have n1_ := Aside0.mk (Kd.R_elder' (by (with_reducible repeat (first | apply Kd.R_alloc | apply Kd.R_drewN | apply Kd.R_drew)); exact HO_557000.out) (Kd.R_base ho0) hb)
            have n2_ := Aside0.mk (Kd.R_lower (Kd.R_new' ho0 (Kd.R_lt (by (with_reducible repeat (first | apply Kd.R_alloc | apply Kd.R_drewN | apply Kd.R_drew)); exact HO_557000.out))) (below_size (by repeat (first | (with_reducible first | exact HB.out | apply below_alloc | apply pw_below_drewN | apply below_drew1 | refine below_set ?_ GE548.out | refine below_set ?_ GE556.out) | exact HB.out))))
            have n3_ := Aside0.mk (blk_below (g := gb548) (o := .cells #[.slice none 0 0, .int .i64 0] 96 (0, 0)) (by (with_reducible repeat (first | refine blk_drewN ?_ _ | refine blk_drew ?_ | refine blk_alloc ?_ _)); exact BK548.out) hb)
            have n4_ := Aside0.mk (blk_below (g := gb556) (o := .cells #[.slice Ao18 x557000_1.length co18, .int .i64 x557001_1] 96 (0, 0)) (by (with_reducible repeat (first | refine blk_drewN ?_ _ | refine blk_drew ?_ | refine blk_alloc ?_ _)); exact BK556.out) hb)
            have n5_ := Aside0.mk (below_step (by repeat (first | (with_reducible first | exact HB.out | apply below_alloc | apply pw_below_drewN | apply below_drew1 | refine below_set ?_ GE548.out | refine below_set ?_ GE556.out) | exact HB.out)) hb)
            clear HO_7
            clear HO_557000
            clear BK548
            clear BK556
            clear HB
            have HO_7 := n0_
            have HO_557000 := n1_
            have HO562 := n2_
            have BK548 := n3_
            have BK556 := n4_
            have HB := n5_
            clear n0_ n1_ n2_ n3_ n4_ n5_
            (try clear hb)
            (try clear hb2)
            (try clear hk)
            (try clear hi)
            (try clear ho0)
            obtain ⟨Ao20, co20, eo20⟩ := Kd.R_slice HO_7.out
            (first | subst eo20 | (injection eo20 with f1_ f2_ f3_; have f4_ := f1_.symm; have f5_ := f3_.symm; clear f1_ f2_ f3_; subst f4_; subst f5_))
            refine hK.out _ _ ⟨(blk_cell BK556.out 0).trans rfl, (blk_cell BK556.out 1).trans rfl, ((HB.out.cell (World.block_lt_of_cell? w _ hw558_0)).trans hw558_0), ((HB.out.cell (World.block_lt_of_cell? w _ hw558_1)).trans hw558_1), ((HB.out.cell (World.block_lt_of_cell? w _ hw558_2)).trans hw558_2), ((HB.out.cell (World.block_lt_of_cell? w _ hw558_3)).trans hw558_3), ((HB.out.cell (World.block_lt_of_cell? w _ hw558_4)).trans hw558_4), ((HB.out.cell (World.block_lt_of_cell? w _ hw559_0)).trans hw559_0), ((HB.out.cell (World.block_lt_of_cell? w _ hw559_1)).trans hw559_1), ((HB.out.cell (World.block_lt_of_cell? w _ hw559_2)).trans hw559_2), ((HB.out.cell (World.block_lt_of_cell? w _ hw559_3)).trans hw559_3), ((HB.out.cell (World.block_lt_of_cell? w _ hw559_4)).trans hw559_4), ((HB.out.cell (World.block_lt_of_cell? w _ hw564_0)).trans hw564_0), ((HB.out.cell (World.block_lt_of_cell? w _ hw564_1)).trans hw564_1), ((HB.out.cell (World.block_lt_of_cell? w _ hw564_2)).trans hw564_2), ((HB.out.cell (World.block_lt_of_cell? w _ hw564_3)).trans hw564_3), ((HB.out.cell (World.block_lt_of_cell? w _ hw564_4)).trans hw564_4), ((HB.out.cell (World.block_lt_of_cell? w _ hw565_0)).trans hw565_0), ((HB.out.cell (World.block_lt_of_cell? w _ hw565_1)).trans hw565_1), ((HB.out.cell (World.block_lt_of_cell? w _ hw565_2)).trans hw565_2), ((HB.out.cell (World.block_lt_of_cell? w _ hw565_3)).trans hw565_3), ((HB.out.cell (World.block_lt_of_cell? w _ hw565_4)).trans hw565_4)⟩ (fun hHeld => ?_)
            clear hK K
            refine norm_ (a' := ?_) ?_ ?_
            rotate_left
            · show Act.put _ (some 36) _ = _
              simp only [Act.put, List.setIfInBounds_toArray, List.set_cons_zero, List.set_cons_succ, i64_w, i32_w]
              rfl
            refine one_ (i := 23) (N := some 48) #[true, true, true, true, true, true, true, true, true, true, true, true, true, true, true, true, true, true, true, true, true, true, true, true, false, false] rfl rfl (one_of HT_.out (by kernel_rfl)) (by decide) (fun K hK => ?_)
            refine goes_ Try.func116 (by kernel_rfl) rfl #[.slice Ao20 x7_1.length co20, .bool ((rd_T102 l1 x8_1).f1), .slice A558_2 ((rd_T102 l1 x8_1).f2).length c558_2] (by rfl) rfl rfl (by (try simp only [List.map_toArray, List.map_cons, List.map_nil]); first | done | rfl | (simp only [List.length_drop, List.length_take]; rfl)) ?_
            with_reducible refine (revetmentref19_Set.calls k1 _ _ x7_1 ((rd_T102 l1 x8_1).f1) _ _ ((rd_T102 l1 x8_1).f2) t566 _ ?side1 ?side2 ?side3 ?side4 A16.out).mono ?_
            (case side1 => repeat (first | exact (Kd.R_reads' HO_7.out).2.2 | (with_reducible refine Kd.C_alloc ?_ _) | (with_reducible refine Kd.C_drewN ?_ _) | (with_reducible refine Kd.C_drew ?_)))
            (case side2 => exact (Kd.R_reads' HO_7.out).2.1)
            (case side3 => repeat (first | exact (Kd.C_below HR565_2.out HB.out) | (with_reducible refine Kd.C_alloc ?_ _) | (with_reducible refine Kd.C_drewN ?_ _) | (with_reducible refine Kd.C_drew ?_)))
            (case side4 => exact HC565_2.out)
            rintro e w21 ⟨v567, rfl, ho0, hb⟩
            refine ⟨_, rfl, ?_⟩
            have n0_ := Aside0.mk (Kd.R_elder' (by (with_reducible repeat (first | apply Kd.R_alloc | apply Kd.R_drewN | apply Kd.R_drew)); exact HO_7.out) (Kd.R_base ho0) hb)
            have n1_ := Aside0.mk (Kd.R_below (by (with_reducible repeat (first | apply Kd.R_alloc | apply Kd.R_drewN | apply Kd.R_drew)); exact HO_557000.out) hb)
            have n2_ := Aside0.mk (Kd.R_below (by (with_reducible repeat (first | apply Kd.R_alloc | apply Kd.R_drewN | apply Kd.R_drew)); exact HO562.out) hb)
            have n3_ := Aside0.mk (Kd.R_lower (Kd.R_new' ho0 (Kd.R_lt (by (with_reducible repeat (first | apply Kd.R_alloc | apply Kd.R_drewN | apply Kd.R_drew)); exact HO_7.out))) (below_size (by repeat (first | (with_reducible first | exact HB.out | apply below_alloc | apply pw_below_drewN | apply below_drew1 | refine below_set ?_ GE548.out | refine below_set ?_ GE556.out) | exact HB.out))))
            have n4_ := Aside0.mk (blk_below (g := gb548) (o := .cells #[.slice none 0 0, .int .i64 0] 96 (0, 0)) (by (with_reducible repeat (first | refine blk_drewN ?_ _ | refine blk_drew ?_ | refine blk_alloc ?_ _)); exact BK548.out) hb)
            have n5_ := Aside0.mk (blk_below (g := gb556) (o := .cells #[.slice Ao18 x557000_1.length co18, .int .i64 x557001_1] 96 (0, 0)) (by (with_reducible repeat (first | refine blk_drewN ?_ _ | refine blk_drew ?_ | refine blk_alloc ?_ _)); exact BK556.out) hb)
            have n6_ := Aside0.mk (below_step (by repeat (first | (with_reducible first | exact HB.out | apply below_alloc | apply pw_below_drewN | apply below_drew1 | refine below_set ?_ GE548.out | refine below_set ?_ GE556.out) | exact HB.out)) hb)
            clear HO_7
            clear HO_557000
            clear HO562
            clear BK548
            clear BK556
            clear HB
            have HO_7 := n0_
            have HO_557000 := n1_
            have HO562 := n2_
            have HO568 := n3_
            have BK548 := n4_
            have BK556 := n5_
            have HB := n6_
            clear n0_ n1_ n2_ n3_ n4_ n5_ n6_
            (try clear hb)
            (try clear hb2)
            (try clear hk)
            (try clear hi)
            (try clear ho0)
            obtain ⟨Ao22, co22, eo22⟩ := Kd.R_slice HO562.out
            (first | subst eo22 | (injection eo22 with f1_ f2_ f3_; have f4_ := f1_.symm; have f5_ := f3_.symm; clear f1_ f2_ f3_; subst f4_; subst f5_))
            refine hK.out _ _ ⟨(blk_cell BK556.out 0).trans rfl, (blk_cell BK556.out 1).trans rfl, ((HB.out.cell (World.block_lt_of_cell? w _ hw558_0)).trans hw558_0), ((HB.out.cell (World.block_lt_of_cell? w _ hw558_1)).trans hw558_1), ((HB.out.cell (World.block_lt_of_cell? w _ hw558_2)).trans hw558_2), ((HB.out.cell (World.block_lt_of_cell? w _ hw558_3)).trans hw558_3), ((HB.out.cell (World.block_lt_of_cell? w _ hw558_4)).trans hw558_4), ((HB.out.cell (World.block_lt_of_cell? w _ hw559_0)).trans hw559_0), ((HB.out.cell (World.block_lt_of_cell? w _ hw559_1)).trans hw559_1), ((HB.out.cell (World.block_lt_of_cell? w _ hw559_2)).trans hw559_2), ((HB.out.cell (World.block_lt_of_cell? w _ hw559_3)).trans hw559_3), ((HB.out.cell (World.block_lt_of_cell? w _ hw559_4)).trans hw559_4), ((HB.out.cell (World.block_lt_of_cell? w _ hw564_0)).trans hw564_0), ((HB.out.cell (World.block_lt_of_cell? w _ hw564_1)).trans hw564_1), ((HB.out.cell (World.block_lt_of_cell? w _ hw564_2)).trans hw564_2), ((HB.out.cell (World.block_lt_of_cell? w _ hw564_3)).trans hw564_3), ((HB.out.cell (World.block_lt_of_cell? w _ hw564_4)).trans hw564_4), ((HB.out.cell (World.block_lt_of_cell? w _ hw565_0)).trans hw565_0), ((HB.out.cell (World.block_lt_of_cell? w _ hw565_1)).trans hw565_1), ((HB.out.cell (World.block_lt_of_cell? w _ hw565_2)).trans hw565_2), ((HB.out.cell (World.block_lt_of_cell? w _ hw565_3)).trans hw565_3), ((HB.out.cell (World.block_lt_of_cell? w _ hw565_4)).trans hw565_4)⟩ (fun hHeld => ?_)
            clear hK K
            refine norm_ (a' := ?_) ?_ ?_
            rotate_left
            · show Act.put _ (some 48) _ = _
              simp only [Act.put, List.setIfInBounds_toArray, List.set_cons_zero, List.set_cons_succ, i64_w, i32_w]
              rfl
            refine last_ (i := 24) (N := none) #[true, true, true, true, true, true, true, true, true, true, true, true, true, true, true, true, true, true, true, true, true, true, true, true, true, false] rfl rfl (one_of HT_.out (by kernel_rfl)) (by decide) (fun K hK => ?_)
            have hs23 : w21.cell? ⟨gb556, 0, none⟩ = some (.slice Ao18 x557000_1.length co18) := (blk_cell BK556.out 0).trans rfl
            have hfs23 := blk_frozen BK556.out 0
            have hns23_0 := NB548_556.out
            have hms23_0 := NB556_548.out
            have hs24 : w21.cell? ⟨gb556, 1, none⟩ = some (.int .i64 x557001_1) := (blk_cell BK556.out 1).trans rfl
            have hfs24 := blk_frozen BK556.out 1
            have hns24_0 := NB548_556.out
            have hms24_0 := NB556_548.out
            refine skip_ (w1 := ?_) (by rfl) rfl ?_ ?_
            rotate_left
            · go_simp
              rfl
            refine hK.out _ _ ?_
            clear hK K
            refine pure_ (i := 25) (N := some 7) (v := ?_) (a' := ?_) #[true, true, true, true, true, true, true, true, true, true, true, true, true, true, true, true, true, true, true, true, true, true, true, true, true, true] rfl rfl (any_of HT_.out (by kernel_rfl)) (fun _ _ _ h => h) (Or.inl ⟨by rfl, ?_⟩) ?_ ?_
            rotate_left
            · intro w'
              go_simp
              with_reducible rfl
            rotate_left
            · simp only [Act.put, List.setIfInBounds_toArray, List.set_cons_zero, List.set_cons_succ, i64_w, i32_w]
              rfl
            refine done_ (done_of HT_.out (by kernel_rfl)) ?_
            try go_wp2
            go_roundg k1
            case measure => have := HK1.out; omega
            case rel => exact ⟨(t566), (wrap64 (x8_1 + 1)), (t560), (t563), (.slice Ao22 t560.length co22), (by first | rfl | (simp; done) | (simp [*]; done)), H', ⟨by have := HK1.out; omega⟩, ⟨by (with_reducible repeat (first | apply Kd.R_alloc | apply Kd.R_drewN | apply Kd.R_drew)); exact Kd.R_mono (Kd.R_far (p := ⟨gb556, 1, none⟩) (Kd.R_far (p := ⟨gb556, 0, none⟩) (Kd.R_types HO568.out BK556.out (by decide)) (fun _ hk => hk.2) (.slice Ao22 t560.length co22)) (fun _ hk => hk.2) (.int .i64 t563)) (fun _ hk => trivial)⟩, ⟨by (with_reducible repeat (first | apply Kd.R_alloc | apply Kd.R_drewN | apply Kd.R_drew)); exact Kd.R_mono (Kd.R_far (p := ⟨gb556, 1, none⟩) (Kd.R_far (p := ⟨gb556, 0, none⟩) (Kd.R_types HO562.out BK556.out (by decide)) (fun _ hk => hk.2) (.slice Ao22 t560.length co22)) (fun _ hk => hk.2) (.int .i64 t563)) (fun _ hk => trivial)⟩, ⟨by (with_reducible repeat (first | refine blk_drewN ?_ _ | refine blk_drew ?_ | refine blk_alloc ?_ _)); refine blk_far ?_ NB548_556.out _; (with_reducible repeat (first | refine blk_drewN ?_ _ | refine blk_drew ?_ | refine blk_alloc ?_ _)); refine blk_far ?_ NB548_556.out _; (with_reducible repeat (first | refine blk_drewN ?_ _ | refine blk_drew ?_ | refine blk_alloc ?_ _)); exact BK548.out⟩, ⟨by (with_reducible repeat (first | refine blk_drewN ?_ _ | refine blk_drew ?_ | refine blk_alloc ?_ _)); refine blk_put (cs := #[.slice Ao22 t560.length co22, .int .i64 x557001_1]) ?_ 1 _ rfl; (with_reducible repeat (first | refine blk_drewN ?_ _ | refine blk_drew ?_ | refine blk_alloc ?_ _)); refine blk_put (cs := #[.slice Ao18 x557000_1.length co18, .int .i64 x557001_1]) ?_ 0 _ rfl; (with_reducible repeat (first | refine blk_drewN ?_ _ | refine blk_drew ?_ | refine blk_alloc ?_ _)); exact BK556.out⟩, ⟨by repeat (first | (with_reducible first | exact HB.out | apply below_alloc | apply pw_below_drewN | apply below_drew1 | refine below_set ?_ GE548.out | refine below_set ?_ GE556.out) | exact HB.out)⟩⟩
          · rw [if_neg c14] at H
            have c14b0 : (((rd_T102 l1 x8_1).f0) == 0) = false := beq_eq_false_iff_ne.mpr c14
            have c14b1 : (((rd_T102 l1 x8_1).f0) != 0) = true := bne_iff_ne.mpr c14
            replace H := Option.bind_eq_some_iff.mp H
            obtain ⟨⟨t571, t574⟩, A250, H⟩ := H
            replace H : ((revetmentref19_Fill.f k1 x7_1 ((rd_T102 l1 x8_1).f3) ((rd_T102 l1 x8_1).f4)).bind fun t577 => (revetmentlaw19_play.l0 k1 l1 t577 (wrap64 (x8_1 + 1)) t571 t574)) = some (r1, r2, r3) := H
            have A25 := Aside0.mk A250
            clear A250
            replace H := Option.bind_eq_some_iff.mp H
            obtain ⟨t577, A260, H⟩ := H
            replace H : (revetmentlaw19_play.l0 k1 l1 t577 (wrap64 (x8_1 + 1)) t571 t574) = some (r1, r2, r3) := H
            have A26 := Aside0.mk A260
            clear A260
            have H' := Aside0.mk H
            clear H
            have p557 : 0 ≤ (x8_1 : Int) := of_decide_eq_true (by first | (with_reducible assumption) | assumption)
            have q557 : x8_1 < (l1.length : Int) := of_decide_eq_true (by first | (with_reducible assumption) | assumption)
            obtain ⟨ad557, A557_2, c557_2, e557, hx557_0, hx557_1, hx557_2, hx557_3, hx557_4, hl557_2, hi557_2⟩ := at_T102 HR1.out x8_1 p557 q557
            cases e557
            replace hx557_0 := (HB.out.cell (World.block_lt_of_cell? w _ hx557_0)).trans hx557_0
            replace hx557_1 := (HB.out.cell (World.block_lt_of_cell? w _ hx557_1)).trans hx557_1
            replace hx557_2 := (HB.out.cell (World.block_lt_of_cell? w _ hx557_2)).trans hx557_2
            replace hx557_3 := (HB.out.cell (World.block_lt_of_cell? w _ hx557_3)).trans hx557_3
            replace hx557_4 := (HB.out.cell (World.block_lt_of_cell? w _ hx557_4)).trans hx557_4
            have HR557_2 := Aside0.mk hi557_2
            have HC557_2 := Aside0.mk hl557_2
            clear hi557_2 hl557_2
            replace p557 := eq_true p557
            replace q557 := eq_true q557
            try go_wp2
            have n0_ := Aside0.mk (Kd.R_drew HO_7.out)
            have n1_ := Aside0.mk (Kd.R_drew HO_557000.out)
            have n2_ := Aside0.mk (blk_drew BK548.out)
            have n3_ := Aside0.mk (blk_drew BK556.out)
            have n4_ := Aside0.mk (below_drew1 HB.out)
            clear HO_7
            clear HO_557000
            clear BK548
            clear BK556
            clear HB
            have HO_7 := n0_
            have HO_557000 := n1_
            have BK548 := n2_
            have BK556 := n3_
            have HB := n4_
            clear n0_ n1_ n2_ n3_ n4_
            have p569 : 0 ≤ (x8_1 : Int) := of_decide_eq_true (by first | (with_reducible assumption) | assumption)
            have q569 : x8_1 < (l1.length : Int) := of_decide_eq_true (by first | (with_reducible assumption) | assumption)
            obtain ⟨ad569, A569_2, c569_2, e569, hx569_0, hx569_1, hx569_2, hx569_3, hx569_4, hl569_2, hi569_2⟩ := at_T102 HR1.out x8_1 p569 q569
            have hw569_4 := hx569_4
            have hw569_3 := hx569_3
            have hw569_2 := hx569_2
            have hw569_1 := hx569_1
            have hw569_0 := hx569_0
            obtain rfl : ad557 = ad569 := (by injection e569)
            replace hx569_0 := (HB.out.cell (World.block_lt_of_cell? w _ hx569_0)).trans hx569_0
            replace hx569_1 := (HB.out.cell (World.block_lt_of_cell? w _ hx569_1)).trans hx569_1
            replace hx569_2 := (HB.out.cell (World.block_lt_of_cell? w _ hx569_2)).trans hx569_2
            replace hx569_3 := (HB.out.cell (World.block_lt_of_cell? w _ hx569_3)).trans hx569_3
            replace hx569_4 := (HB.out.cell (World.block_lt_of_cell? w _ hx569_4)).trans hx569_4
            have HR569_2 := Aside0.mk hi569_2
            have HC569_2 := Aside0.mk hl569_2
            clear hi569_2 hl569_2
            replace p569 := eq_true p569
            replace q569 := eq_true q569
            have p570 : 0 ≤ (x8_1 : Int) := of_decide_eq_true (by first | (with_reducible assumption) | assumption)
            have q570 : x8_1 < (l1.length : Int) := of_decide_eq_true (by first | (with_reducible assumption) | assumption)
            obtain ⟨ad570, A570_2, c570_2, e570, hx570_0, hx570_1, hx570_2, hx570_3, hx570_4, hl570_2, hi570_2⟩ := at_T102 HR1.out x8_1 p570 q570
            have hw570_4 := hx570_4
            have hw570_3 := hx570_3
            have hw570_2 := hx570_2
            have hw570_1 := hx570_1
            have hw570_0 := hx570_0
            obtain rfl : ad557 = ad570 := (by injection e570)
            replace hx570_0 := (HB.out.cell (World.block_lt_of_cell? w _ hx570_0)).trans hx570_0
            replace hx570_1 := (HB.out.cell (World.block_lt_of_cell? w _ hx570_1)).trans hx570_1
            replace hx570_2 := (HB.out.cell (World.block_lt_of_cell? w _ hx570_2)).trans hx570_2
            replace hx570_3 := (HB.out.cell (World.block_lt_of_cell? w _ hx570_3)).trans hx570_3
            replace hx570_4 := (HB.out.cell (World.block_lt_of_cell? w _ hx570_4)).trans hx570_4
            have HR570_2 := Aside0.mk hi570_2
            have HC570_2 := Aside0.mk hl570_2
            clear hi570_2 hl570_2
            replace p570 := eq_true p570
            replace q570 := eq_true q570
            have ea_ := Option.some.inj (hx569_2.symm.trans hx570_2)
            injection ea_ with ea_ en_ ec_
            subst ea_
            subst ec_
            clear en_
            have p575 : 0 ≤ (x8_1 : Int) := of_decide_eq_true (by first | (with_reducible assumption) | assumption)
            have q575 : x8_1 < (l1.length : Int) := of_decide_eq_true (by first | (with_reducible assumption) | assumption)
            obtain ⟨ad575, A575_2, c575_2, e575, hx575_0, hx575_1, hx575_2, hx575_3, hx575_4, hl575_2, hi575_2⟩ := at_T102 HR1.out x8_1 p575 q575
            have hw575_4 := hx575_4
            have hw575_3 := hx575_3
            have hw575_2 := hx575_2
            have hw575_1 := hx575_1
            have hw575_0 := hx575_0
            obtain rfl : ad557 = ad575 := (by injection e575)
            replace hx575_0 := (HB.out.cell (World.block_lt_of_cell? w _ hx575_0)).trans hx575_0
            replace hx575_1 := (HB.out.cell (World.block_lt_of_cell? w _ hx575_1)).trans hx575_1
            replace hx575_2 := (HB.out.cell (World.block_lt_of_cell? w _ hx575_2)).trans hx575_2
            replace hx575_3 := (HB.out.cell (World.block_lt_of_cell? w _ hx575_3)).trans hx575_3
            replace hx575_4 := (HB.out.cell (World.block_lt_of_cell? w _ hx575_4)).trans hx575_4
            have HR575_2 := Aside0.mk hi575_2
            have HC575_2 := Aside0.mk hl575_2
            clear hi575_2 hl575_2
            replace p575 := eq_true p575
            replace q575 := eq_true q575
            have ea_ := Option.some.inj (hx569_2.symm.trans hx575_2)
            injection ea_ with ea_ en_ ec_
            subst ea_
            subst ec_
            clear en_
            have p576 : 0 ≤ (x8_1 : Int) := of_decide_eq_true (by first | (with_reducible assumption) | assumption)
            have q576 : x8_1 < (l1.length : Int) := of_decide_eq_true (by first | (with_reducible assumption) | assumption)
            obtain ⟨ad576, A576_2, c576_2, e576, hx576_0, hx576_1, hx576_2, hx576_3, hx576_4, hl576_2, hi576_2⟩ := at_T102 HR1.out x8_1 p576 q576
            have hw576_4 := hx576_4
            have hw576_3 := hx576_3
            have hw576_2 := hx576_2
            have hw576_1 := hx576_1
            have hw576_0 := hx576_0
            obtain rfl : ad557 = ad576 := (by injection e576)
            replace hx576_0 := (HB.out.cell (World.block_lt_of_cell? w _ hx576_0)).trans hx576_0
            replace hx576_1 := (HB.out.cell (World.block_lt_of_cell? w _ hx576_1)).trans hx576_1
            replace hx576_2 := (HB.out.cell (World.block_lt_of_cell? w _ hx576_2)).trans hx576_2
            replace hx576_3 := (HB.out.cell (World.block_lt_of_cell? w _ hx576_3)).trans hx576_3
            replace hx576_4 := (HB.out.cell (World.block_lt_of_cell? w _ hx576_4)).trans hx576_4
            have HR576_2 := Aside0.mk hi576_2
            have HC576_2 := Aside0.mk hl576_2
            clear hi576_2 hl576_2
            replace p576 := eq_true p576
            replace q576 := eq_true q576
            have ea_ := Option.some.inj (hx569_2.symm.trans hx576_2)
            injection ea_ with ea_ en_ ec_
            subst ea_
            subst ec_
            clear en_
            obtain ⟨Ao28, co28, eo28⟩ := Kd.R_slice HO_557000.out
            (first | subst eo28 | (injection eo28 with f1_ f2_ f3_; have f4_ := f1_.symm; have f5_ := f3_.symm; clear f1_ f2_ f3_; subst f4_; subst f5_))
            refine start_ (n := 26) (S := fun w' => w'.cell? ⟨gb556, 0, none⟩ = some (.slice Ao28 x557000_1.length co28) ∧ w'.cell? ⟨gb556, 1, none⟩ = some (.int .i64 x557001_1) ∧ w'.cell? (ad557.add ((x8_1).toNat * 5)) = some (.int .i64 ((rd_T102 l1 x8_1).f0)) ∧ w'.cell? ⟨(ad557.add ((x8_1).toNat * 5)).block, (ad557.add ((x8_1).toNat * 5)).off + 1, none⟩ = some (.bool ((rd_T102 l1 x8_1).f1)) ∧ w'.cell? ⟨(ad557.add ((x8_1).toNat * 5)).block, (ad557.add ((x8_1).toNat * 5)).off + 2, none⟩ = some (.slice A569_2 ((rd_T102 l1 x8_1).f2).length c569_2) ∧ w'.cell? ⟨(ad557.add ((x8_1).toNat * 5)).block, (ad557.add ((x8_1).toNat * 5)).off + 3, none⟩ = some (.int .i64 ((rd_T102 l1 x8_1).f3)) ∧ w'.cell? ⟨(ad557.add ((x8_1).toNat * 5)).block, (ad557.add ((x8_1).toNat * 5)).off + 4, none⟩ = some (.int .i64 ((rd_T102 l1 x8_1).f4)) ∧ w'.cell? (ad557.add ((x8_1).toNat * 5)) = some (.int .i64 ((rd_T102 l1 x8_1).f0)) ∧ w'.cell? ⟨(ad557.add ((x8_1).toNat * 5)).block, (ad557.add ((x8_1).toNat * 5)).off + 1, none⟩ = some (.bool ((rd_T102 l1 x8_1).f1)) ∧ w'.cell? ⟨(ad557.add ((x8_1).toNat * 5)).block, (ad557.add ((x8_1).toNat * 5)).off + 2, none⟩ = some (.slice A569_2 ((rd_T102 l1 x8_1).f2).length c569_2) ∧ w'.cell? ⟨(ad557.add ((x8_1).toNat * 5)).block, (ad557.add ((x8_1).toNat * 5)).off + 3, none⟩ = some (.int .i64 ((rd_T102 l1 x8_1).f3)) ∧ w'.cell? ⟨(ad557.add ((x8_1).toNat * 5)).block, (ad557.add ((x8_1).toNat * 5)).off + 4, none⟩ = some (.int .i64 ((rd_T102 l1 x8_1).f4)) ∧ w'.cell? (ad557.add ((x8_1).toNat * 5)) = some (.int .i64 ((rd_T102 l1 x8_1).f0)) ∧ w'.cell? ⟨(ad557.add ((x8_1).toNat * 5)).block, (ad557.add ((x8_1).toNat * 5)).off + 1, none⟩ = some (.bool ((rd_T102 l1 x8_1).f1)) ∧ w'.cell? ⟨(ad557.add ((x8_1).toNat * 5)).block, (ad557.add ((x8_1).toNat * 5)).off + 2, none⟩ = some (.slice A569_2 ((rd_T102 l1 x8_1).f2).length c569_2) ∧ w'.cell? ⟨(ad557.add ((x8_1).toNat * 5)).block, (ad557.add ((x8_1).toNat * 5)).off + 3, none⟩ = some (.int .i64 ((rd_T102 l1 x8_1).f3)) ∧ w'.cell? ⟨(ad557.add ((x8_1).toNat * 5)).block, (ad557.add ((x8_1).toNat * 5)).off + 4, none⟩ = some (.int .i64 ((rd_T102 l1 x8_1).f4)) ∧ w'.cell? (ad557.add ((x8_1).toNat * 5)) = some (.int .i64 ((rd_T102 l1 x8_1).f0)) ∧ w'.cell? ⟨(ad557.add ((x8_1).toNat * 5)).block, (ad557.add ((x8_1).toNat * 5)).off + 1, none⟩ = some (.bool ((rd_T102 l1 x8_1).f1)) ∧ w'.cell? ⟨(ad557.add ((x8_1).toNat * 5)).block, (ad557.add ((x8_1).toNat * 5)).off + 2, none⟩ = some (.slice A569_2 ((rd_T102 l1 x8_1).f2).length c569_2) ∧ w'.cell? ⟨(ad557.add ((x8_1).toNat * 5)).block, (ad557.add ((x8_1).toNat * 5)).off + 3, none⟩ = some (.int .i64 ((rd_T102 l1 x8_1).f3)) ∧ w'.cell? ⟨(ad557.add ((x8_1).toNat * 5)).block, (ad557.add ((x8_1).toNat * 5)).off + 4, none⟩ = some (.int .i64 ((rd_T102 l1 x8_1).f4))) (ds := [24]) #[false, false, false, false, false, false, false, false, false, false, false, false, false, false, false, false, false, false, false, false, false, false, false, false, false, false] (by kernel_rfl) rfl rfl ⟨(blk_cell BK556.out 0).trans rfl, (blk_cell BK556.out 1).trans rfl, ((HB.out.cell (World.block_lt_of_cell? w _ hw569_0)).trans hw569_0), ((HB.out.cell (World.block_lt_of_cell? w _ hw569_1)).trans hw569_1), ((HB.out.cell (World.block_lt_of_cell? w _ hw569_2)).trans hw569_2), ((HB.out.cell (World.block_lt_of_cell? w _ hw569_3)).trans hw569_3), ((HB.out.cell (World.block_lt_of_cell? w _ hw569_4)).trans hw569_4), ((HB.out.cell (World.block_lt_of_cell? w _ hw570_0)).trans hw570_0), ((HB.out.cell (World.block_lt_of_cell? w _ hw570_1)).trans hw570_1), ((HB.out.cell (World.block_lt_of_cell? w _ hw570_2)).trans hw570_2), ((HB.out.cell (World.block_lt_of_cell? w _ hw570_3)).trans hw570_3), ((HB.out.cell (World.block_lt_of_cell? w _ hw570_4)).trans hw570_4), ((HB.out.cell (World.block_lt_of_cell? w _ hw575_0)).trans hw575_0), ((HB.out.cell (World.block_lt_of_cell? w _ hw575_1)).trans hw575_1), ((HB.out.cell (World.block_lt_of_cell? w _ hw575_2)).trans hw575_2), ((HB.out.cell (World.block_lt_of_cell? w _ hw575_3)).trans hw575_3), ((HB.out.cell (World.block_lt_of_cell? w _ hw575_4)).trans hw575_4), ((HB.out.cell (World.block_lt_of_cell? w _ hw576_0)).trans hw576_0), ((HB.out.cell (World.block_lt_of_cell? w _ hw576_1)).trans hw576_1), ((HB.out.cell (World.block_lt_of_cell? w _ hw576_2)).trans hw576_2), ((HB.out.cell (World.block_lt_of_cell? w _ hw576_3)).trans hw576_3), ((HB.out.cell (World.block_lt_of_cell? w _ hw576_4)).trans hw576_4)⟩ (fun hHeld => ?_); refine with_tabW revetmentlaw19_play.tab7 revetmentlaw19_play.bits7 (fun HT_ HW_ => ?_)
            generalize wr.drew = w27 at HO_7 HO_557000 BK548 BK556 HB HR569_2 HR570_2 HR575_2 HR576_2 hx569_0 hx569_1 hx569_2 hx569_3 hx569_4 hx570_0 hx570_1 hx570_2 hx570_3 hx570_4 hx575_0 hx575_1 hx575_2 hx575_3 hx575_4 hx576_0 hx576_1 hx576_2 hx576_3 hx576_4 hHeld ⊢
            refine pure_ (i := 1) (N := some 50) (v := ?_) (a' := ?_) #[false, true, false, false, false, false, false, false, false, false, false, false, false, false, false, false, false, false, false, false, false, false, false, false, false, false] rfl rfl (any_of HT_.out (by kernel_rfl)) (fun _ _ _ h => h) (Or.inl ⟨by rfl, ?_⟩) ?_ ?_
            rotate_left
            · intro w'
              go_simp
              with_reducible rfl
            rotate_left
            · simp only [Act.put, List.setIfInBounds_toArray, List.set_cons_zero, List.set_cons_succ, i64_w, i32_w]
              rfl
            refine pure_ (i := 2) (N := some 51) (v := ?_) (a' := ?_) #[false, true, true, false, false, false, false, false, false, false, false, false, false, false, false, false, false, false, false, false, false, false, false, false, false, false] rfl rfl (any_of HT_.out (by kernel_rfl)) (fun _ _ _ h => h) (Or.inl ⟨by rfl, ?_⟩) ?_ ?_
            rotate_left
            · intro w'
              go_simp
              with_reducible rfl
            rotate_left
            · simp only [Act.put, List.setIfInBounds_toArray, List.set_cons_zero, List.set_cons_succ, i64_w, i32_w]
              rfl
            refine pure_ (i := 3) (N := some 52) (v := ?_) (a' := ?_) #[false, true, true, true, false, false, false, false, false, false, false, false, false, false, false, false, false, false, false, false, false, false, false, false, false, false] rfl rfl (any_of HT_.out (by kernel_rfl)) (fun _ _ _ h => h) (Or.inl ⟨by rfl, ?_⟩) ?_ ?_
            rotate_left
            · intro w'
              go_simp
              with_reducible rfl
            rotate_left
            · simp only [Act.put, List.setIfInBounds_toArray, List.set_cons_zero, List.set_cons_succ, i64_w, i32_w]
              rfl
            refine pure_ (i := 4) (N := some 53) (v := ?_) (a' := ?_) #[false, true, true, true, true, false, false, false, false, false, false, false, false, false, false, false, false, false, false, false, false, false, false, false, false, false] rfl rfl (any_of HT_.out (by kernel_rfl)) (fun _ _ _ h => h) (Or.inl ⟨by rfl, ?_⟩) ?_ ?_
            rotate_left
            · intro w'
              go_simp
              with_reducible rfl
            rotate_left
            · simp only [Act.put, List.setIfInBounds_toArray, List.set_cons_zero, List.set_cons_succ, i64_w, i32_w]
              rfl
            refine pure_ (i := 6) (N := some 55) (v := ?_) (a' := ?_) #[false, true, true, true, true, false, true, false, false, false, false, false, false, false, false, false, false, false, false, false, false, false, false, false, false, false] rfl rfl (any_of HT_.out (by kernel_rfl)) (fun _ _ _ h => h) (Or.inl ⟨by rfl, ?_⟩) ?_ ?_
            rotate_left
            · intro w'
              go_simp
              with_reducible rfl
            rotate_left
            · simp only [Act.put, List.setIfInBounds_toArray, List.set_cons_zero, List.set_cons_succ, i64_w, i32_w]
              rfl
            refine pure_ (i := 7) (N := some 56) (v := ?_) (a' := ?_) #[false, true, true, true, true, false, true, true, false, false, false, false, false, false, false, false, false, false, false, false, false, false, false, false, false, false] rfl rfl (any_of HT_.out (by kernel_rfl)) (fun _ _ _ h => h) (Or.inl ⟨by rfl, ?_⟩) ?_ ?_
            rotate_left
            · intro w'
              go_simp
              with_reducible rfl
            rotate_left
            · simp only [Act.put, List.setIfInBounds_toArray, List.set_cons_zero, List.set_cons_succ, i64_w, i32_w]
              rfl
            refine pure_ (i := 8) (N := some 57) (v := ?_) (a' := ?_) #[false, true, true, true, true, false, true, true, true, false, false, false, false, false, false, false, false, false, false, false, false, false, false, false, false, false] rfl rfl (any_of HT_.out (by kernel_rfl)) (fun _ _ _ h => h) (Or.inl ⟨by rfl, ?_⟩) ?_ ?_
            rotate_left
            · intro w'
              go_simp
              with_reducible rfl
            rotate_left
            · simp only [Act.put, List.setIfInBounds_toArray, List.set_cons_zero, List.set_cons_succ, i64_w, i32_w]
              rfl
            refine pure_ (i := 9) (N := some 58) (v := ?_) (a' := ?_) #[false, true, true, true, true, false, true, true, true, true, false, false, false, false, false, false, false, false, false, false, false, false, false, false, false, false] rfl rfl (any_of HT_.out (by kernel_rfl)) (fun _ _ _ h => h) (Or.inl ⟨by rfl, ?_⟩) ?_ ?_
            rotate_left
            · intro w'
              go_simp
              with_reducible rfl
            rotate_left
            · simp only [Act.put, List.setIfInBounds_toArray, List.set_cons_zero, List.set_cons_succ, i64_w, i32_w]
              rfl
            refine pure_ (i := 12) (N := some 61) (v := ?_) (a' := ?_) #[false, true, true, true, true, false, true, true, true, true, false, false, true, false, false, false, false, false, false, false, false, false, false, false, false, false] rfl rfl (any_of HT_.out (by kernel_rfl)) (fun _ _ _ h => h) (Or.inl ⟨by rfl, ?_⟩) ?_ ?_
            rotate_left
            · intro w'
              go_simp
              with_reducible rfl
            rotate_left
            · simp only [Act.put, List.setIfInBounds_toArray, List.set_cons_zero, List.set_cons_succ, i64_w, i32_w]
              rfl
            refine pure_ (i := 13) (N := some 62) (v := ?_) (a' := ?_) #[false, true, true, true, true, false, true, true, true, true, false, false, true, true, false, false, false, false, false, false, false, false, false, false, false, false] rfl rfl (any_of HT_.out (by kernel_rfl)) (fun _ _ _ h => h) (Or.inl ⟨by rfl, ?_⟩) ?_ ?_
            rotate_left
            · intro w'
              go_simp
              with_reducible rfl
            rotate_left
            · simp only [Act.put, List.setIfInBounds_toArray, List.set_cons_zero, List.set_cons_succ, i64_w, i32_w]
              rfl
            refine pure_ (i := 14) (N := some 63) (v := ?_) (a' := ?_) #[false, true, true, true, true, false, true, true, true, true, false, false, true, true, true, false, false, false, false, false, false, false, false, false, false, false] rfl rfl (any_of HT_.out (by kernel_rfl)) (fun _ _ _ h => h) (Or.inl ⟨by rfl, ?_⟩) ?_ ?_
            rotate_left
            · intro w'
              go_simp
              with_reducible rfl
            rotate_left
            · simp only [Act.put, List.setIfInBounds_toArray, List.set_cons_zero, List.set_cons_succ, i64_w, i32_w]
              rfl
            refine pure_ (i := 15) (N := some 64) (v := ?_) (a' := ?_) #[false, true, true, true, true, false, true, true, true, true, false, false, true, true, true, true, false, false, false, false, false, false, false, false, false, false] rfl rfl (any_of HT_.out (by kernel_rfl)) (fun _ _ _ h => h) (Or.inl ⟨by rfl, ?_⟩) ?_ ?_
            rotate_left
            · intro w'
              go_simp
              with_reducible rfl
            rotate_left
            · simp only [Act.put, List.setIfInBounds_toArray, List.set_cons_zero, List.set_cons_succ, i64_w, i32_w]
              rfl
            refine pure_ (i := 16) (N := some 65) (v := ?_) (a' := ?_) #[false, true, true, true, true, false, true, true, true, true, false, false, true, true, true, true, true, false, false, false, false, false, false, false, false, false] rfl rfl (any_of HT_.out (by kernel_rfl)) (fun _ _ _ h => h) (Or.inl ⟨by rfl, ?_⟩) ?_ ?_
            rotate_left
            · intro w'
              go_simp
              with_reducible rfl
            rotate_left
            · simp only [Act.put, List.setIfInBounds_toArray, List.set_cons_zero, List.set_cons_succ, i64_w, i32_w]
              rfl
            refine pure_ (i := 18) (N := some 67) (v := ?_) (a' := ?_) #[false, true, true, true, true, false, true, true, true, true, false, false, true, true, true, true, true, false, true, false, false, false, false, false, false, false] rfl rfl (any_of HT_.out (by kernel_rfl)) (fun _ _ _ h => h) (Or.inl ⟨by rfl, ?_⟩) ?_ ?_
            rotate_left
            · intro w'
              go_simp
              with_reducible rfl
            rotate_left
            · simp only [Act.put, List.setIfInBounds_toArray, List.set_cons_zero, List.set_cons_succ, i64_w, i32_w]
              rfl
            refine pure_ (i := 19) (N := some 68) (v := ?_) (a' := ?_) #[false, true, true, true, true, false, true, true, true, true, false, false, true, true, true, true, true, false, true, true, false, false, false, false, false, false] rfl rfl (any_of HT_.out (by kernel_rfl)) (fun _ _ _ h => h) (Or.inl ⟨by rfl, ?_⟩) ?_ ?_
            rotate_left
            · intro w'
              go_simp
              with_reducible rfl
            rotate_left
            · simp only [Act.put, List.setIfInBounds_toArray, List.set_cons_zero, List.set_cons_succ, i64_w, i32_w]
              rfl
            refine pure_ (i := 20) (N := some 69) (v := ?_) (a' := ?_) #[false, true, true, true, true, false, true, true, true, true, false, false, true, true, true, true, true, false, true, true, true, false, false, false, false, false] rfl rfl (any_of HT_.out (by kernel_rfl)) (fun _ _ _ h => h) (Or.inl ⟨by rfl, ?_⟩) ?_ ?_
            rotate_left
            · intro w'
              go_simp
              with_reducible rfl
            rotate_left
            · simp only [Act.put, List.setIfInBounds_toArray, List.set_cons_zero, List.set_cons_succ, i64_w, i32_w]
              rfl
            refine pure_ (i := 21) (N := some 70) (v := ?_) (a' := ?_) #[false, true, true, true, true, false, true, true, true, true, false, false, true, true, true, true, true, false, true, true, true, true, false, false, false, false] rfl rfl (any_of HT_.out (by kernel_rfl)) (fun _ _ _ h => h) (Or.inl ⟨by rfl, ?_⟩) ?_ ?_
            rotate_left
            · intro w'
              go_simp
              with_reducible rfl
            rotate_left
            · simp only [Act.put, List.setIfInBounds_toArray, List.set_cons_zero, List.set_cons_succ, i64_w, i32_w]
              rfl
            refine take_ (i := 0) (N := some 49) (v := ?_) (a' := ?_) #[true, true, true, true, true, false, true, true, true, true, false, false, true, true, true, true, true, false, true, true, true, true, false, false, false, false] rfl rfl (take_ofW HT_.out HW_.out (by kernel_rfl)) (fun _ _ _ h => h) (Or.inl ⟨by rfl, ?_⟩) hHeld ?_ ?_
            rotate_left
            · rintro w' ⟨s0, s1, s2, s3, s4, s5, s6, s7, s8, s9, s10, s11, s12, s13, s14, s15, s16, s17, s18, s19, s20, s21⟩
              go_simp
              with_reducible rfl
            rotate_left
            · simp only [Act.put, List.setIfInBounds_toArray, List.set_cons_zero, List.set_cons_succ, i64_w, i32_w]
              rfl
            refine take_ (i := 5) (N := some 54) (v := ?_) (a' := ?_) #[true, true, true, true, true, true, true, true, true, true, false, false, true, true, true, true, true, false, true, true, true, true, false, false, false, false] rfl rfl (take_ofW HT_.out HW_.out (by kernel_rfl)) (fun _ _ _ h => h) (Or.inl ⟨by rfl, ?_⟩) hHeld ?_ ?_
            rotate_left
            · rintro w' ⟨s0, s1, s2, s3, s4, s5, s6, s7, s8, s9, s10, s11, s12, s13, s14, s15, s16, s17, s18, s19, s20, s21⟩
              go_simp
              with_reducible rfl
            rotate_left
            · simp only [Act.put, List.setIfInBounds_toArray, List.set_cons_zero, List.set_cons_succ, i64_w, i32_w]
              rfl
            refine take_ (i := 10) (N := some 59) (v := ?_) (a' := ?_) #[true, true, true, true, true, true, true, true, true, true, true, false, true, true, true, true, true, false, true, true, true, true, false, false, false, false] rfl rfl (take_ofW HT_.out HW_.out (by kernel_rfl)) (fun _ _ _ h => h) (Or.inl ⟨by rfl, ?_⟩) hHeld ?_ ?_
            rotate_left
            · rintro w' ⟨s0, s1, s2, s3, s4, s5, s6, s7, s8, s9, s10, s11, s12, s13, s14, s15, s16, s17, s18, s19, s20, s21⟩
              go_simp
              with_reducible rfl
            rotate_left
            · simp only [Act.put, List.setIfInBounds_toArray, List.set_cons_zero, List.set_cons_succ, i64_w, i32_w]
              rfl
            refine take_ (i := 17) (N := some 66) (v := ?_) (a' := ?_) #[true, true, true, true, true, true, true, true, true, true, true, false, true, true, true, true, true, true, true, true, true, true, false, false, false, false] rfl rfl (take_ofW HT_.out HW_.out (by kernel_rfl)) (fun _ _ _ h => h) (Or.inl ⟨by rfl, ?_⟩) hHeld ?_ ?_
            rotate_left
            · rintro w' ⟨s0, s1, s2, s3, s4, s5, s6, s7, s8, s9, s10, s11, s12, s13, s14, s15, s16, s17, s18, s19, s20, s21⟩
              go_simp
              with_reducible rfl
            rotate_left
            · simp only [Act.put, List.setIfInBounds_toArray, List.set_cons_zero, List.set_cons_succ, i64_w, i32_w]
              rfl
            refine take_ (i := 22) (N := some 71) (v := ?_) (a' := ?_) #[true, true, true, true, true, true, true, true, true, true, true, false, true, true, true, true, true, true, true, true, true, true, true, false, false, false] rfl rfl (take_ofW HT_.out HW_.out (by kernel_rfl)) (fun _ _ _ h => h) (Or.inl ⟨by rfl, ?_⟩) hHeld ?_ ?_
            rotate_left
            · rintro w' ⟨s0, s1, s2, s3, s4, s5, s6, s7, s8, s9, s10, s11, s12, s13, s14, s15, s16, s17, s18, s19, s20, s21⟩
              go_simp
              with_reducible rfl
            rotate_left
            · simp only [Act.put, List.setIfInBounds_toArray, List.set_cons_zero, List.set_cons_succ, i64_w, i32_w]
              rfl
            refine one_ (i := 11) (N := some 60) #[true, true, true, true, true, true, true, true, true, true, true, true, true, true, true, true, true, true, true, true, true, true, true, false, false, false] rfl rfl (one_of HT_.out (by kernel_rfl)) (by decide) (fun K hK => ?_)
            refine goes_ Try.func117 (by kernel_rfl) rfl #[.agg #[.slice Ao28 x557000_1.length co28, .int .i64 x557001_1], .int .i64 ((rd_T102 l1 x8_1).f3), .int .i64 ((rd_T102 l1 x8_1).f4)] (by rfl) rfl rfl (by (try simp only [List.map_toArray, List.map_cons, List.map_nil]); first | done | rfl | (simp only [List.length_drop, List.length_take]; rfl)) ?_
            with_reducible refine (bitmap_Fill.calls k1 _ _ x557000_1 x557001_1 ((rd_T102 l1 x8_1).f3) ((rd_T102 l1 x8_1).f4) t571 t574 _ ?side1 ?side2 A25.out).mono ?_
            (case side1 => repeat (first | exact (Kd.R_reads' HO_557000.out).2.2 | (with_reducible refine Kd.C_alloc ?_ _) | (with_reducible refine Kd.C_drewN ?_ _) | (with_reducible refine Kd.C_drew ?_)))
            (case side2 => exact (Kd.R_reads' HO_557000.out).2.1)
            rintro e w29 ⟨v572, rfl, ho0, hb⟩
            refine ⟨_, rfl, ?_⟩
            have n0_ := Aside0.mk (Kd.R_below (by (with_reducible repeat (first | apply Kd.R_alloc | apply Kd.R_drewN | apply Kd.R_drew)); exact HO_7.out) hb)
            have n1_ := Aside0.mk (Kd.R_elder' (by (with_reducible repeat (first | apply Kd.R_alloc | apply Kd.R_drewN | apply Kd.R_drew)); exact HO_557000.out) (Kd.R_base ho0) hb)
            have n2_ := Aside0.mk (Kd.R_lower (Kd.R_new' ho0 (Kd.R_lt (by (with_reducible repeat (first | apply Kd.R_alloc | apply Kd.R_drewN | apply Kd.R_drew)); exact HO_557000.out))) (below_size (by repeat (first | (with_reducible first | exact HB.out | apply below_alloc | apply pw_below_drewN | apply below_drew1 | refine below_set ?_ GE548.out | refine below_set ?_ GE556.out) | exact HB.out))))
            have n3_ := Aside0.mk (blk_below (g := gb548) (o := .cells #[.slice none 0 0, .int .i64 0] 96 (0, 0)) (by (with_reducible repeat (first | refine blk_drewN ?_ _ | refine blk_drew ?_ | refine blk_alloc ?_ _)); exact BK548.out) hb)
            have n4_ := Aside0.mk (blk_below (g := gb556) (o := .cells #[.slice Ao28 x557000_1.length co28, .int .i64 x557001_1] 96 (0, 0)) (by (with_reducible repeat (first | refine blk_drewN ?_ _ | refine blk_drew ?_ | refine blk_alloc ?_ _)); exact BK556.out) hb)
            have n5_ := Aside0.mk (below_step (by repeat (first | (with_reducible first | exact HB.out | apply below_alloc | apply pw_below_drewN | apply below_drew1 | refine below_set ?_ GE548.out | refine below_set ?_ GE556.out) | exact HB.out)) hb)
            clear HO_7
            clear HO_557000
            clear BK548
            clear BK556
            clear HB
            have HO_7 := n0_
            have HO_557000 := n1_
            have HO573 := n2_
            have BK548 := n3_
            have BK556 := n4_
            have HB := n5_
            clear n0_ n1_ n2_ n3_ n4_ n5_
            (try clear hb)
            (try clear hb2)
            (try clear hk)
            (try clear hi)
            (try clear ho0)
            obtain ⟨Ao30, co30, eo30⟩ := Kd.R_slice HO_7.out
            (first | subst eo30 | (injection eo30 with f1_ f2_ f3_; have f4_ := f1_.symm; have f5_ := f3_.symm; clear f1_ f2_ f3_; subst f4_; subst f5_))
            refine hK.out _ _ ⟨(blk_cell BK556.out 0).trans rfl, (blk_cell BK556.out 1).trans rfl, ((HB.out.cell (World.block_lt_of_cell? w _ hw569_0)).trans hw569_0), ((HB.out.cell (World.block_lt_of_cell? w _ hw569_1)).trans hw569_1), ((HB.out.cell (World.block_lt_of_cell? w _ hw569_2)).trans hw569_2), ((HB.out.cell (World.block_lt_of_cell? w _ hw569_3)).trans hw569_3), ((HB.out.cell (World.block_lt_of_cell? w _ hw569_4)).trans hw569_4), ((HB.out.cell (World.block_lt_of_cell? w _ hw570_0)).trans hw570_0), ((HB.out.cell (World.block_lt_of_cell? w _ hw570_1)).trans hw570_1), ((HB.out.cell (World.block_lt_of_cell? w _ hw570_2)).trans hw570_2), ((HB.out.cell (World.block_lt_of_cell? w _ hw570_3)).trans hw570_3), ((HB.out.cell (World.block_lt_of_cell? w _ hw570_4)).trans hw570_4), ((HB.out.cell (World.block_lt_of_cell? w _ hw575_0)).trans hw575_0), ((HB.out.cell (World.block_lt_of_cell? w _ hw575_1)).trans hw575_1), ((HB.out.cell (World.block_lt_of_cell? w _ hw575_2)).trans hw575_2), ((HB.out.cell (World.block_lt_of_cell? w _ hw575_3)).trans hw575_3), ((HB.out.cell (World.block_lt_of_cell? w _ hw575_4)).trans hw575_4), ((HB.out.cell (World.block_lt_of_cell? w _ hw576_0)).trans hw576_0), ((HB.out.cell (World.block_lt_of_cell? w _ hw576_1)).trans hw576_1), ((HB.out.cell (World.block_lt_of_cell? w _ hw576_2)).trans hw576_2), ((HB.out.cell (World.block_lt_of_cell? w _ hw576_3)).trans hw576_3), ((HB.out.cell (World.block_lt_of_cell? w _ hw576_4)).trans hw576_4)⟩ (fun hHeld => ?_)
            clear hK K
            refine norm_ (a' := ?_) ?_ ?_
            rotate_left
            · show Act.put _ (some 60) _ = _
              simp only [Act.put, List.setIfInBounds_toArray, List.set_cons_zero, List.set_cons_succ, i64_w, i32_w]
              rfl
            refine one_ (i := 23) (N := some 72) #[true, true, true, true, true, true, true, true, true, true, true, true, true, true, true, true, true, true, true, true, true, true, true, true, false, false] rfl rfl (one_of HT_.out (by kernel_rfl)) (by decide) (fun K hK => ?_)
            refine goes_ Try.func118 (by kernel_rfl) rfl #[.slice Ao30 x7_1.length co30, .int .i64 ((rd_T102 l1 x8_1).f3), .int .i64 ((rd_T102 l1 x8_1).f4)] (by rfl) rfl rfl (by (try simp only [List.map_toArray, List.map_cons, List.map_nil]); first | done | rfl | (simp only [List.length_drop, List.length_take]; rfl)) ?_
            with_reducible refine (revetmentref19_Fill.calls k1 _ _ x7_1 ((rd_T102 l1 x8_1).f3) ((rd_T102 l1 x8_1).f4) t577 _ ?side1 ?side2 A26.out).mono ?_
            (case side1 => repeat (first | exact (Kd.R_reads' HO_7.out).2.2 | (with_reducible refine Kd.C_alloc ?_ _) | (with_reducible refine Kd.C_drewN ?_ _) | (with_reducible refine Kd.C_drew ?_)))
            (case side2 => exact (Kd.R_reads' HO_7.out).2.1)
            rintro e w31 ⟨v578, rfl, ho0, hb⟩
            refine ⟨_, rfl, ?_⟩
            have n0_ := Aside0.mk (Kd.R_elder' (by (with_reducible repeat (first | apply Kd.R_alloc | apply Kd.R_drewN | apply Kd.R_drew)); exact HO_7.out) (Kd.R_base ho0) hb)
            have n1_ := Aside0.mk (Kd.R_below (by (with_reducible repeat (first | apply Kd.R_alloc | apply Kd.R_drewN | apply Kd.R_drew)); exact HO_557000.out) hb)
            have n2_ := Aside0.mk (Kd.R_below (by (with_reducible repeat (first | apply Kd.R_alloc | apply Kd.R_drewN | apply Kd.R_drew)); exact HO573.out) hb)
            have n3_ := Aside0.mk (Kd.R_lower (Kd.R_new' ho0 (Kd.R_lt (by (with_reducible repeat (first | apply Kd.R_alloc | apply Kd.R_drewN | apply Kd.R_drew)); exact HO_7.out))) (below_size (by repeat (first | (with_reducible first | exact HB.out | apply below_alloc | apply pw_below_drewN | apply below_drew1 | refine below_set ?_ GE548.out | refine below_set ?_ GE556.out) | exact HB.out))))
            have n4_ := Aside0.mk (blk_below (g := gb548) (o := .cells #[.slice none 0 0, .int .i64 0] 96 (0, 0)) (by (with_reducible repeat (first | refine blk_drewN ?_ _ | refine blk_drew ?_ | refine blk_alloc ?_ _)); exact BK548.out) hb)
            have n5_ := Aside0.mk (blk_below (g := gb556) (o := .cells #[.slice Ao28 x557000_1.length co28, .int .i64 x557001_1] 96 (0, 0)) (by (with_reducible repeat (first | refine blk_drewN ?_ _ | refine blk_drew ?_ | refine blk_alloc ?_ _)); exact BK556.out) hb)
            have n6_ := Aside0.mk (below_step (by repeat (first | (with_reducible first | exact HB.out | apply below_alloc | apply pw_below_drewN | apply below_drew1 | refine below_set ?_ GE548.out | refine below_set ?_ GE556.out) | exact HB.out)) hb)
            clear HO_7
            clear HO_557000
            clear HO573
            clear BK548
            clear BK556
            clear HB
            have HO_7 := n0_
            have HO_557000 := n1_
            have HO573 := n2_
            have HO579 := n3_
            have BK548 := n4_
            have BK556 := n5_
            have HB := n6_
            clear n0_ n1_ n2_ n3_ n4_ n5_ n6_
            (try clear hb)
            (try clear hb2)
            (try clear hk)
            (try clear hi)
            (try clear ho0)
            obtain ⟨Ao32, co32, eo32⟩ := Kd.R_slice HO573.out
            (first | subst eo32 | (injection eo32 with f1_ f2_ f3_; have f4_ := f1_.symm; have f5_ := f3_.symm; clear f1_ f2_ f3_; subst f4_; subst f5_))
            refine hK.out _ _ ⟨(blk_cell BK556.out 0).trans rfl, (blk_cell BK556.out 1).trans rfl, ((HB.out.cell (World.block_lt_of_cell? w _ hw569_0)).trans hw569_0), ((HB.out.cell (World.block_lt_of_cell? w _ hw569_1)).trans hw569_1), ((HB.out.cell (World.block_lt_of_cell? w _ hw569_2)).trans hw569_2), ((HB.out.cell (World.block_lt_of_cell? w _ hw569_3)).trans hw569_3), ((HB.out.cell (World.block_lt_of_cell? w _ hw569_4)).trans hw569_4), ((HB.out.cell (World.block_lt_of_cell? w _ hw570_0)).trans hw570_0), ((HB.out.cell (World.block_lt_of_cell? w _ hw570_1)).trans hw570_1), ((HB.out.cell (World.block_lt_of_cell? w _ hw570_2)).trans hw570_2), ((HB.out.cell (World.block_lt_of_cell? w _ hw570_3)).trans hw570_3), ((HB.out.cell (World.block_lt_of_cell? w _ hw570_4)).trans hw570_4), ((HB.out.cell (World.block_lt_of_cell? w _ hw575_0)).trans hw575_0), ((HB.out.cell (World.block_lt_of_cell? w _ hw575_1)).trans hw575_1), ((HB.out.cell (World.block_lt_of_cell? w _ hw575_2)).trans hw575_2), ((HB.out.cell (World.block_lt_of_cell? w _ hw575_3)).trans hw575_3), ((HB.out.cell (World.block_lt_of_cell? w _ hw575_4)).trans hw575_4), ((HB.out.cell (World.block_lt_of_cell? w _ hw576_0)).trans hw576_0), ((HB.out.cell (World.block_lt_of_cell? w _ hw576_1)).trans hw576_1), ((HB.out.cell (World.block_lt_of_cell? w _ hw576_2)).trans hw576_2), ((HB.out.cell (World.block_lt_of_cell? w _ hw576_3)).trans hw576_3), ((HB.out.cell (World.block_lt_of_cell? w _ hw576_4)).trans hw576_4)⟩ (fun hHeld => ?_)
            clear hK K
            refine norm_ (a' := ?_) ?_ ?_
            rotate_left
            · show Act.put _ (some 72) _ = _
              simp only [Act.put, List.setIfInBounds_toArray, List.set_cons_zero, List.set_cons_succ, i64_w, i32_w]
              rfl
            refine last_ (i := 24) (N := none) #[true, true, true, true, true, true, true, true, true, true, true, true, true, true, true, true, true, true, true, true, true, true, true, true, true, false] rfl rfl (one_of HT_.out (by kernel_rfl)) (by decide) (fun K hK => ?_)
            have hs33 : w31.cell? ⟨gb556, 0, none⟩ = some (.slice Ao28 x557000_1.length co28) := (blk_cell BK556.out 0).trans rfl
            have hfs33 := blk_frozen BK556.out 0
            have hns33_0 := NB548_556.out
            have hms33_0 := NB556_548.out
            have hs34 : w31.cell? ⟨gb556, 1, none⟩ = some (.int .i64 x557001_1) := (blk_cell BK556.out 1).trans rfl
            have hfs34 := blk_frozen BK556.out 1
            have hns34_0 := NB548_556.out
            have hms34_0 := NB556_548.out
            refine skip_ (w1 := ?_) (by rfl) rfl ?_ ?_
            rotate_left
            · go_simp
              rfl
            refine hK.out _ _ ?_
            clear hK K
            refine pure_ (i := 25) (N := some 7) (v := ?_) (a' := ?_) #[true, true, true, true, true, true, true, true, true, true, true, true, true, true, true, true, true, true, true, true, true, true, true, true, true, true] rfl rfl (any_of HT_.out (by kernel_rfl)) (fun _ _ _ h => h) (Or.inl ⟨by rfl, ?_⟩) ?_ ?_
            rotate_left
            · intro w'
              go_simp
              with_reducible rfl
            rotate_left
            · simp only [Act.put, List.setIfInBounds_toArray, List.set_cons_zero, List.set_cons_succ, i64_w, i32_w]
              rfl
            refine done_ (done_of HT_.out (by kernel_rfl)) ?_
            try go_wp2
            go_roundg k1
            case measure => have := HK1.out; omega
            case rel => exact ⟨(t577), (wrap64 (x8_1 + 1)), (t571), (t574), (.slice Ao32 t571.length co32), (by first | rfl | (simp; done) | (simp [*]; done)), H', ⟨by have := HK1.out; omega⟩, ⟨by (with_reducible repeat (first | apply Kd.R_alloc | apply Kd.R_drewN | apply Kd.R_drew)); exact Kd.R_mono (Kd.R_far (p := ⟨gb556, 1, none⟩) (Kd.R_far (p := ⟨gb556, 0, none⟩) (Kd.R_types HO579.out BK556.out (by decide)) (fun _ hk => hk.2) (.slice Ao32 t571.length co32)) (fun _ hk => hk.2) (.int .i64 t574)) (fun _ hk => trivial)⟩, ⟨by (with_reducible repeat (first | apply Kd.R_alloc | apply Kd.R_drewN | apply Kd.R_drew)); exact Kd.R_mono (Kd.R_far (p := ⟨gb556, 1, none⟩) (Kd.R_far (p := ⟨gb556, 0, none⟩) (Kd.R_types HO573.out BK556.out (by decide)) (fun _ hk => hk.2) (.slice Ao32 t571.length co32)) (fun _ hk => hk.2) (.int .i64 t574)) (fun _ hk => trivial)⟩, ⟨by (with_reducible repeat (first | refine blk_drewN ?_ _ | refine blk_drew ?_ | refine blk_alloc ?_ _)); refine blk_far ?_ NB548_556.out _; (with_reducible repeat (first | refine blk_drewN ?_ _ | refine blk_drew ?_ | refine blk_alloc ?_ _)); refine blk_far ?_ NB548_556.out _; (with_reducible repeat (first | refine blk_drewN ?_ _ | refine blk_drew ?_ | refine blk_alloc ?_ _)); exact BK548.out⟩, ⟨by (with_reducible repeat (first | refine blk_drewN ?_ _ | refine blk_drew ?_ | refine blk_alloc ?_ _)); refine blk_put (cs := #[.slice Ao32 t571.length co32, .int .i64 x557001_1]) ?_ 1 _ rfl; (with_reducible repeat (first | refine blk_drewN ?_ _ | refine blk_drew ?_ | refine blk_alloc ?_ _)); refine blk_put (cs := #[.slice Ao28 x557000_1.length co28, .int .i64 x557001_1]) ?_ 0 _ rfl; (with_reducible repeat (first | refine blk_drewN ?_ _ | refine blk_drew ?_ | refine blk_alloc ?_ _)); exact BK556.out⟩, ⟨by repeat (first | (with_reducible first | exact HB.out | apply below_alloc | apply pw_below_drewN | apply below_drew1 | refine below_set ?_ GE548.out | refine below_set ?_ GE556.out) | exact HB.out)⟩⟩
        · rw [if_neg c13] at H
          exact absurd H (by simp)
      · rw [if_neg c12] at H
        have c12b0 : decide (x8_1 < (l1.length : Int)) = false := decide_eq_false c12
        clear c12
        simp only [Option.some.injEq, Prod.mk.injEq] at H
        obtain ⟨rfl, rfl, rfl⟩ := H
        have hnb35 := NB556_548.out
        have hnc35 := NB548_556.out
        have hcz36_0 : wr.cell? ⟨gb556, 0, none⟩ = some (u557000) := (blk_cell BK556.out 0).trans rfl
        have hcz36_1 : wr.cell? ⟨gb556, 1, none⟩ = some (.int .i64 x557001_1) := (blk_cell BK556.out 1).trans rfl
        have hfz36_0 := blk_frozen BK556.out 0
        have hfz36_1 := blk_frozen BK556.out 1
        obtain ⟨Ao37, co37, eo37⟩ := Kd.R_slice HO_557000.out
        subst eo37
        have hcz38_0 : wr.cell? ⟨gb548, 0, none⟩ = some (.slice none 0 0) := (blk_cell BK548.out 0).trans rfl
        have hcz38_1 : wr.cell? ⟨gb548, 1, none⟩ = some (.int .i64 0) := (blk_cell BK548.out 1).trans rfl
        have hfz38_0 := blk_frozen BK548.out 0
        have hfz38_1 := blk_frozen BK548.out 1
        go_wp2
        refine bodyPost_ret (results_ct rfl _ _ gb548 96 #[.slice Ao37 x557000_1.length co37, .int .i64 x557001_1] (0, 0) _ rfl (by (with_reducible repeat (first | refine blk_drewN ?_ _ | refine blk_drew ?_ | refine blk_alloc ?_ _)); refine blk_put (cs := #[.slice Ao37 x557000_1.length co37, .int .i64 0]) ?_ 1 _ rfl; (with_reducible repeat (first | refine blk_drewN ?_ _ | refine blk_drew ?_ | refine blk_alloc ?_ _)); refine blk_put (cs := #[.slice none 0 0, .int .i64 0]) ?_ 0 _ rfl; (with_reducible repeat (first | refine blk_drewN ?_ _ | refine blk_drew ?_ | refine blk_alloc ?_ _)); exact BK548.out) Try.underlying96 rfl (by kernel_rfl)) rfl ?_
        exact ⟨_, _, by first | rfl | (simp [errW_none, errW_some] <;> rfl) | (simp [*, errW_none, errW_some] <;> rfl), by (with_reducible repeat (first | apply Kd.R_alloc | apply Kd.R_drewN | apply Kd.R_drew)); exact Kd.R_mono (Kd.R_far (p := ⟨gb548, 1, none⟩) (Kd.R_far (p := ⟨gb548, 0, none⟩) (Kd.R_types HO_557000.out BK548.out (by decide)) (fun _ hk => hk.2) (.slice Ao37 x557000_1.length co37)) (fun _ hk => hk.2) (.int .i64 x557001_1)) (fun _ hk => trivial), by (with_reducible repeat (first | apply Kd.R_alloc | apply Kd.R_drewN | apply Kd.R_drew)); exact Kd.R_mono (Kd.R_far (p := ⟨gb548, 1, none⟩) (Kd.R_far (p := ⟨gb548, 0, none⟩) (Kd.R_types HO_7.out BK548.out (by decide)) (fun _ hk => hk.2) (.slice Ao37 x557000_1.length co37)) (fun _ hk => hk.2) (.int .i64 x557001_1)) (fun _ hk => trivial), by repeat (first | (with_reducible first | exact HB.out | apply below_alloc | apply pw_below_drewN | apply below_drew1 | refine below_set ?_ GE548.out | refine below_set ?_ GE556.out) | exact HB.out)⟩

end Go.Proofs.Ythpggaglmdnncaa.M
