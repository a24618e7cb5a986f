-- Written by wip/tools/mine.py (a program of this session, over the kit's print and texts of its own).
import Derived.ArgAppend
import Derived.Below
import Derived.BigQuiet
import Derived.Deep.AppendLies
import Derived.Deep.CutBlock
import Derived.Deep.DeepCutAuto
import Derived.Deep.Draws
import Derived.Deep.LoopGhost
import Derived.Deep.OwnRows
import Derived.Deep.QuietTactic
import Derived.Deep.RegionHeld3
import Derived.KernelRfl
import Derived.Laws.BitsLemmas
import Derived.Laws.BytesArg
import Derived.Laws.IdiomCopy
import Derived.Laws.MakeOwn
import Derived.Laws.OwnMore
import Derived.Laws.Rows
import Derived.Laws.Slices
import Derived.Lib.AppendStr
import Derived.Lib.ConvBytes
import Derived.Maps.AppendAt
import Derived.OrdersHeld
import Derived.OwnWalk
import Derived.RowKit
import Derived.RowKit3
import Derived.Tactics
import Derived.Test.YthpggaglmdnncaaGMyWords
import Derived.Test.YthpggaglmdnncaaProg
import Derived.Test.YthpggaglmdnncaaGWApart
import Derived.Test.YthpggaglmdnncaaGWArr
import Derived.Test.YthpggaglmdnncaaGWAt
import Derived.Test.YthpggaglmdnncaaGWEqStruct
import Derived.Test.YthpggaglmdnncaaGWFoot
import Derived.Test.YthpggaglmdnncaaGWFootNe
import Derived.Test.YthpggaglmdnncaaGWFour
import Derived.Test.YthpggaglmdnncaaGWGuard
import Derived.Test.YthpggaglmdnncaaGWInv
import Derived.Test.YthpggaglmdnncaaGWInvWords
import Derived.Test.YthpggaglmdnncaaGWKept
import Derived.Test.YthpggaglmdnncaaGWLast
import Derived.Test.YthpggaglmdnncaaGWMore
import Derived.Test.YthpggaglmdnncaaGWN
import Derived.Test.YthpggaglmdnncaaGWNEv
import Derived.Test.YthpggaglmdnncaaGWQPut
import Derived.Test.YthpggaglmdnncaaGWRepsOne
import Derived.Test.YthpggaglmdnncaaGWShare
import Derived.Test.YthpggaglmdnncaaGWTab
import Derived.Test.YthpggaglmdnncaaGWWords
import Derived.Test.YthpggaglmdnncaaGWZeros
import Derived.WalkKit
import Derived.WideLaws
import Derived.Test.YthpggaglmdnncaaGM0
import Derived.Test.YthpggaglmdnncaaGMrlaw04
import Derived.Test.YthpggaglmdnncaaGMrlaw04p2
import Derived.Test.YthpggaglmdnncaaGMrlaw04p4
import Derived.Test.YthpggaglmdnncaaGMrref04
import Derived.Test.YthpggaglmdnncaaGMzone
import Derived.Test.YthpggaglmdnncaaGMzonep5
namespace Go.Proofs.Ythpggaglmdnncaa.M
open Go.RowKit Go.Proofs.YthpggaglmdnncaaW.PrintWords Go.Proofs.YthpggaglmdnncaaW.PrintLast Go.Proofs.YthpggaglmdnncaaW.PrintMore Go.Proofs.YthpggaglmdnncaaW.MyWords
attribute [local go_sem] max2_int min2_int max_two min_two max_three min_three max_four min_four -- for this text's walks alone
set_option linter.unusedVariables false
set_option linter.unusedSimpArgs false

def revetmentlaw04_ZonePlays.l0 : Nat → List (S57) → Int → Int → Int → List Int → Int → Bool → Int → Int → List ByteArray → Int → Bool → Option (Bool)
  | 0, _, _, _, _, _, _, _, _, _, _, _, _ => none
  | k + 1, x2, x9, x118000, x118001, x118002, x118003, x118004, x119000, x119001, x119002, x119003, x119004 => if x9 < (x2.length : Int) then (if 0 ≤ x9 then ((revetmentlaw04_does.f k x118000 x118001 x118002 x118003 x118004 ((rd_T57 x2 x9).f0) ((rd_T57 x2 x9).f1) ((rd_T57 x2 x9).f2)).bind fun bt121 => ((revetmentlaw04_should.f k x119000 x119001 x119002 x119003 x119004 ((rd_T57 x2 x9).f0) ((rd_T57 x2 x9).f1) ((rd_T57 x2 x9).f2)).bind fun bt131 => ((zone_Read.f bt121.1 bt121.2.1 bt121.2.2.1 bt121.2.2.2.1 bt121.2.2.2.2.1 0 (bt131.2.2.1.length : Int)).bind fun bt140 => ((revetmentref04_Read.f k bt131.1 bt131.2.1 bt131.2.2.1 bt131.2.2.2.1 bt131.2.2.2.2.1 0 (bt131.2.2.1.length : Int)).bind fun bt144 => ((zone_Look.f bt121.1 bt121.2.1 bt121.2.2.1 bt121.2.2.2.1 bt121.2.2.2.2.1).bind fun bt146 => (if bt121.2.2.2.2.2 = bt131.2.2.2.2.2 then ((revetmentlaw04_code.f bt140.2).bind fun t150 => (if t150 = 0 then (if (strOfNums bt140.1).toList = bt144.1.toList then (if bt146.1 = (bt131.2.2.1.length : Int) then (if bt146.2.1 = bt131.2.2.2.1 then (if (bt146.2.2 != bt131.2.2.2.2.1) = true then (none) else ((zone_Active.f bt121.1 bt121.2.1 bt121.2.2.1 bt121.2.2.2.1 bt121.2.2.2.2.1).bind fun t151 => ((revetmentref04_Active.f bt131.1 bt131.2.1 bt131.2.2.1 bt131.2.2.2.1 bt131.2.2.2.2.1).bind fun t152 => (if (t151 != t152) = true then (none) else (revetmentlaw04_ZonePlays.l0 k x2 (wrap64 (x9 + 1)) bt121.1 bt121.2.1 bt121.2.2.1 bt121.2.2.2.1 bt121.2.2.2.2.1 bt131.1 bt131.2.1 bt131.2.2.1 bt131.2.2.2.1 bt131.2.2.2.2.1))))) else (none)) else (none)) else (none)) else (none))) else (none))))))) else (none)) else ((revetmentlaw04_live.f k).bind fun t119 => (some t119))
def revetmentlaw04_ZonePlays.f (k : Nat) (a0 : Int) (a1 : Int) (l2 : List (S57)) : Option (Bool) := (revetmentlaw04_much.f k l2).bind fun t101 => (if t101 = true then ((revetmentlaw04_live.f k).bind fun t102 => (some t102)) else ((zone_New.f a0 a1).bind fun bt103 => ((revetmentref04_New.f a0 a1).bind fun bt110 => (revetmentlaw04_ZonePlays.l0 k l2 0 bt103.1 bt103.2.1 bt103.2.2.1 bt103.2.2.2.1 bt103.2.2.2.2 bt110.1 bt110.2.1 bt110.2.2.1 bt110.2.2.2.1 bt110.2.2.2.2))))
def revetmentlaw04_ZonePlays.T7 : Bool × List (List Nat × List Nat) := (true, [([], []), ([], []), ([], []), ([1, 2], [1, 2]), ([3], [3]), ([0, 4], [0, 4]), ([5], [5]), ([6], [6]), ([6], [6]), ([], []), ([9, 7, 5, 0, 1, 2, 3, 4, 5, 6, 7, 9], [7, 9]), ([8, 10, 0, 1, 2, 3, 4, 5, 6, 7, 8, 9, 10], [8])])
def revetmentlaw04_ZonePlays.B7 : List Nat := [0, 0, 0, 6, 14, 31, 63, 127, 127, 0, 767, 2047]
theorem revetmentlaw04_ZonePlays.tab7 : rtab .any (opsOf Try.f7 7) = revetmentlaw04_ZonePlays.T7 := by kernel_rfl
theorem revetmentlaw04_ZonePlays.bits7 : waitsOk revetmentlaw04_ZonePlays.T7.2 revetmentlaw04_ZonePlays.B7 = true := by kernel_rfl
def revetmentlaw04_ZonePlays.T8 : Bool × List (List Nat × List Nat) := (true, [([], []), ([], []), ([], []), ([1, 2], [1, 2]), ([3], [3]), ([0, 4], [0, 4]), ([5], [5]), ([6], [6]), ([6], [6]), ([], []), ([9, 7, 5, 0, 1, 2, 3, 4, 5, 6, 7, 9], [7, 9]), ([8, 10, 0, 1, 2, 3, 4, 5, 6, 7, 8, 9, 10], [8])])
def revetmentlaw04_ZonePlays.B8 : List Nat := [0, 0, 0, 6, 14, 31, 63, 127, 127, 0, 767, 2047]
theorem revetmentlaw04_ZonePlays.tab8 : rtab .any (opsOf Try.f7 8) = revetmentlaw04_ZonePlays.T8 := by kernel_rfl
theorem revetmentlaw04_ZonePlays.bits8 : waitsOk revetmentlaw04_ZonePlays.T8.2 revetmentlaw04_ZonePlays.B8 = true := by kernel_rfl
def revetmentlaw04_ZonePlays.T13 : Bool × List (List Nat × List Nat) := (true, [([], []), ([], []), ([0, 1], [0, 1]), ([2], [2]), ([3], [3]), ([4, 3, 3], [3, 4]), ([5, 3], [3, 5]), ([3, 6], [3, 6]), ([7, 5], [7]), ([8], [8]), ([9, 8], [8, 9]), ([8], [8]), ([10, 11, 8], [8, 10, 11]), ([8, 12], [8, 12]), ([13, 8], [13]), ([14], [14]), ([15, 14], [14, 15]), ([14], [14]), ([17, 14], [14, 17]), ([18, 14], [14, 18]), ([16, 19, 14], [14, 16, 19]), ([14, 20], [14, 20]), ([21, 14], [21]), ([22], [22]), ([23, 22], [22, 23]), ([22], [22]), ([25, 22], [22, 25]), ([24, 26, 22], [22, 24, 26]), ([22, 27], [22, 27]), ([28, 22], [28]), ([29], [29]), ([30, 29], [29, 30]), ([29], [29]), ([32, 29], [29, 32]), ([31, 33, 29], [29, 31, 33]), ([29, 34], [29, 34]), ([35, 29], [35]), ([36], [36]), ([37, 36, 36], [36, 37]), ([36], [36]), ([39, 38, 36], [36, 39]), ([38, 40, 36], [36, 38, 40]), ([36, 41], [36, 41])])
def revetmentlaw04_ZonePlays.B13 : List Nat := [0, 0, 3, 7, 15, 31, 63, 127, 255, 511, 1023, 511, 4095, 8191, 16383, 32767, 65535, 32767, 163839, 425983, 1048575, 2097151, 4194303, 8388607, 16777215, 8388607, 41943039, 134217727, 268435455, 536870911, 1073741823, 2147483647, 1073741823, 5368709119, 17179869183, 34359738367, 68719476735, 137438953471, 274877906943, 137438953471, 1099511627775, 2199023255551, 4398046511103]
theorem revetmentlaw04_ZonePlays.tab13 : rtab .any (opsOf Try.f7 13) = revetmentlaw04_ZonePlays.T13 := by kernel_rfl
theorem revetmentlaw04_ZonePlays.bits13 : waitsOk revetmentlaw04_ZonePlays.T13.2 revetmentlaw04_ZonePlays.B13 = true := by kernel_rfl
set_option maxHeartbeats 8000000 in
set_option maxRecDepth 100000 in
theorem revetmentlaw04_ZonePlays.calls (k : Nat) (a0 : Int) (a1 : Int) (A2 : Option Addr) (c2 : Nat) (l2 : List (S57)) (r : Bool) (w : World) (hr2 : Kd.C k57 w A2 l2.length l2) (hc2 : l2.length ≤ c2) (h : revetmentlaw04_ZonePlays.f k a0 a1 l2 = some r) :
    Calls Try.prog 7 #[.int .i64 a0, .int .i64 a1, .slice A2 l2.length c2] w fun e w' => e = .returned (.bool r) ∧ Below w.heap.size w w' := by
  have hu54 := Try.underlying54
  have hu80 := Try.underlying80
  have hu57 := Try.underlying57
  have hu61 := Try.underlying61
  have HR2 := Aside0.mk hr2
  have HC2 := Aside0.mk hc2
  clear hr2 hc2
  have HB := Aside0.mk (Below.refl w.heap.size w)
  have H : ((revetmentlaw04_much.f k l2).bind fun t101 => (if t101 = true then ((revetmentlaw04_live.f k).bind fun t102 => (some t102)) else ((zone_New.f a0 a1).bind fun bt103 => ((revetmentref04_New.f a0 a1).bind fun bt110 => (revetmentlaw04_ZonePlays.l0 k l2 0 bt103.1 bt103.2.1 bt103.2.2.1 bt103.2.2.2.1 bt103.2.2.2.2 bt110.1 bt110.2.1 bt110.2.2.1 bt110.2.2.2.1 bt110.2.2.2.2))))) = some r := h
  clear h
  replace H := Option.bind_eq_some_iff.mp H
  obtain ⟨t101, A40, H⟩ := H
  replace H : (if t101 = true then ((revetmentlaw04_live.f k).bind fun t102 => (some t102)) else ((zone_New.f a0 a1).bind fun bt103 => ((revetmentref04_New.f a0 a1).bind fun bt110 => (revetmentlaw04_ZonePlays.l0 k l2 0 bt103.1 bt103.2.1 bt103.2.2.1 bt103.2.2.2.1 bt103.2.2.2.2 bt110.1 bt110.2.1 bt110.2.2.1 bt110.2.2.2.1 bt110.2.2.2.2)))) = some r := H
  have A4 := Aside0.mk A40
  clear A40
  by_cases c5 : t101 = true
  · subst c5
    have H1 : ((revetmentlaw04_live.f k).bind fun t102 => (some t102)) = some r := by rw [if_pos rfl] at H; exact H
    clear H
    have H := H1
    clear H1
    replace H := Option.bind_eq_some_iff.mp H
    obtain ⟨t102, A60, H⟩ := H
    replace H : (some t102) = some r := H
    have A6 := Aside0.mk A60
    clear A60
    obtain rfl := Option.some.inj H
    go_enter Try.func7, Try.ntmps7
    go_wp2_with (first | ((with_reducible refine gate_callee (f := 33) rfl ?_); refine goesL_ (some 20) rfl rfl Try.func33 (by kernel_rfl) rfl #[.slice A2 l2.length c2] rfl (by (try simp only [List.map_toArray, List.map_cons, List.map_nil]); first | done | rfl | (simp only [List.length_drop, List.length_take]; rfl)) ?_; (with_reducible refine (revetmentlaw04_much.calls k _ _ l2 true _ ?side1 ?side2 A4.out).mono ?_); (case side1 => repeat (first | exact HR2.out | (with_reducible refine Kd.C_alloc ?_ _) | (with_reducible refine Kd.C_drewN ?_ _) | (with_reducible refine Kd.C_drew ?_))); (case side2 => exact HC2.out); rintro e w' ⟨rfl, ⟨nd, rfl⟩⟩; refine ⟨_, rfl, ?_⟩) | ((with_reducible refine gate_callee (f := 34) rfl ?_); refine goesL_ (some 21) rfl rfl Try.func34 (by kernel_rfl) rfl #[] rfl (by (try simp only [List.map_toArray, List.map_cons, List.map_nil]); first | done | rfl | (simp only [List.length_drop, List.length_take]; rfl)) ?_; (with_reducible refine (revetmentlaw04_live.calls k  t102 _ A6.out).mono ?_); rintro e w7 ⟨rfl, hb⟩; refine ⟨_, rfl, ?_⟩; have n0_ := Aside0.mk (below_step (by repeat (first | (with_reducible first | exact HB.out | apply below_alloc | apply pw_below_drewN | apply below_drew1) | exact HB.out)) hb); clear HB; have HB := n0_; clear n0_; (try clear hb); (try clear hb2); (try clear hk); (try clear hi)))
    go_ret
    exact ⟨by first | rfl | (simp [errW_none, errW_some] <;> rfl) | (simp [*, errW_none, errW_some] <;> rfl), by repeat (first | (with_reducible first | exact HB.out | apply below_alloc | apply pw_below_drewN | apply below_drew1) | exact HB.out)⟩
  · replace c5 := Bool.eq_false_iff.mpr c5
    subst c5
    have H1 : ((zone_New.f a0 a1).bind fun bt103 => ((revetmentref04_New.f a0 a1).bind fun bt110 => (revetmentlaw04_ZonePlays.l0 k l2 0 bt103.1 bt103.2.1 bt103.2.2.1 bt103.2.2.2.1 bt103.2.2.2.2 bt110.1 bt110.2.1 bt110.2.2.1 bt110.2.2.2.1 bt110.2.2.2.2))) = some r := by rw [if_neg (show ¬ (false = true) by decide)] at H; exact H
    clear H
    have H := H1
    clear H1
    replace H := Option.bind_eq_some_iff.mp H
    obtain ⟨⟨t103, t104, t105, t108, t109⟩, A80, H⟩ := H
    replace H : ((revetmentref04_New.f a0 a1).bind fun bt110 => (revetmentlaw04_ZonePlays.l0 k l2 0 t103 t104 t105 t108 t109 bt110.1 bt110.2.1 bt110.2.2.1 bt110.2.2.2.1 bt110.2.2.2.2)) = some r := H
    have A8 := Aside0.mk A80
    clear A80
    replace H := Option.bind_eq_some_iff.mp H
    obtain ⟨⟨t110, t111, t112, t115, t116⟩, A90, H⟩ := H
    replace H : (revetmentlaw04_ZonePlays.l0 k l2 0 t103 t104 t105 t108 t109 t110 t111 t112 t115 t116) = some r := H
    have A9 := Aside0.mk A90
    clear A90
    have H' := Aside0.mk H
    clear H
    go_enter Try.func7, Try.ntmps7
    go_wp2_with (first | ((with_reducible refine gate_callee (f := 33) rfl ?_); refine goesL_ (some 20) rfl rfl Try.func33 (by kernel_rfl) rfl #[.slice A2 l2.length c2] rfl (by (try simp only [List.map_toArray, List.map_cons, List.map_nil]); first | done | rfl | (simp only [List.length_drop, List.length_take]; rfl)) ?_; (with_reducible refine (revetmentlaw04_much.calls k _ _ l2 false _ ?side1 ?side2 A4.out).mono ?_); (case side1 => repeat (first | exact HR2.out | (with_reducible refine Kd.C_alloc ?_ _) | (with_reducible refine Kd.C_drewN ?_ _) | (with_reducible refine Kd.C_drew ?_))); (case side2 => exact HC2.out); rintro e w' ⟨rfl, ⟨nd, rfl⟩⟩; refine ⟨_, rfl, ?_⟩) | ((with_reducible refine gate_callee (f := 35) rfl ?_); refine goesL_ (some 24) rfl rfl Try.func35 (by kernel_rfl) rfl #[.int .i64 a0, .int .i64 a1] rfl (by (try simp only [List.map_toArray, List.map_cons, List.map_nil]); first | done | rfl | (simp only [List.length_drop, List.length_take]; rfl)) ?_; (with_reducible refine (zone_New.calls a0 a1 t103 t104 t105 t108 t109 _ A8.out).mono ?_); rintro e w10 ⟨v106, rfl, ho0, hb⟩; refine ⟨_, rfl, ?_⟩; have n0_ := Aside0.mk (Kd.R_lower ho0 (below_size (by repeat (first | (with_reducible first | exact HB.out | apply below_alloc | apply pw_below_drewN | apply below_drew1) | exact HB.out)))); have n1_ := Aside0.mk (below_step (by repeat (first | (with_reducible first | exact HB.out | apply below_alloc | apply pw_below_drewN | apply below_drew1) | exact HB.out)) hb); clear HB; have HO107 := n0_; have HB := n1_; clear n0_ n1_; (try clear hb); (try clear hb2); (try clear hk); (try clear hi); (try clear ho0)) | ((with_reducible refine gate_callee (f := 49) rfl ?_); refine goesL_ (some 27) rfl rfl Try.func49 (by kernel_rfl) rfl #[.int .i64 a0, .int .i64 a1] rfl (by (try simp only [List.map_toArray, List.map_cons, List.map_nil]); first | done | rfl | (simp only [List.length_drop, List.length_take]; rfl)) ?_; (with_reducible refine (revetmentref04_New.calls a0 a1 t110 t111 t112 t115 t116 _ A9.out).mono ?_); rintro e w11 ⟨v113, rfl, ho0, hb⟩; refine ⟨_, rfl, ?_⟩; have n0_ := Aside0.mk (Kd.R_below (by (with_reducible repeat (first | apply Kd.R_alloc | apply Kd.R_drewN | apply Kd.R_drew)); exact HO107.out) hb); have n1_ := Aside0.mk (Kd.R_lower ho0 (below_size (by repeat (first | (with_reducible first | exact HB.out | apply below_alloc | apply pw_below_drewN | apply below_drew1) | exact HB.out)))); have n2_ := Aside0.mk (below_step (by repeat (first | (with_reducible first | exact HB.out | apply below_alloc | apply pw_below_drewN | apply below_drew1) | exact HB.out)) hb); clear HO107; clear HB; have HO107 := n0_; have HO114 := n1_; have HB := n2_; clear n0_ n1_ n2_; (try clear hb); (try clear hb2); (try clear hk); (try clear hi); (try clear ho0)) | ((with_reducible refine gate_dst (N := 7) rfl ?_); (try (refine gate_guard (by rfl) ?_; dsimp only)); refine box_event ?hg (N := 7) ?hd (cs := #[.int .i64 0, .int .i64 0, .slice none 0 0, .int .i64 0, .bool false]) (t := 54) ?hr ?_; (case hd => rfl); (case hg => rfl); (case hr => first | (go_simp; done) | (go_simp; rfl)); intro gb117 hg w12 hbox hb; have n0_ := Aside0.mk (Kd.R_below (by (with_reducible repeat (first | apply Kd.R_alloc | apply Kd.R_drewN | apply Kd.R_drew)); exact HO107.out) hb); have n1_ := Aside0.mk (Kd.R_below (by (with_reducible repeat (first | apply Kd.R_alloc | apply Kd.R_drewN | apply Kd.R_drew)); exact HO114.out) hb); have n2_ := Aside0.mk (below_step (by repeat (first | (with_reducible first | exact HB.out | apply below_alloc | apply pw_below_drewN | apply below_drew1) | exact HB.out)) hb); have n3_ := Aside0.mk (hbox); have n4_ := Aside0.mk ((by rw [hg]; exact (below_size (by repeat (first | (with_reducible first | exact HB.out | apply below_alloc | apply pw_below_drewN | apply below_drew1) | exact HB.out))) : w.heap.size ≤ gb117)); have n5_ := Aside0.mk ((by rw [hg]; exact (below_size (by repeat (first | (with_reducible first | exact HB.out | apply below_alloc | apply pw_below_drewN | apply below_drew1) | exact HB.out))) : w.heap.size ≤ gb117)); clear HO107; clear HO114; clear HB; have HO107 := n0_; have HO114 := n1_; have HB := n2_; have BK117 := n3_; have GW117 := n4_; have GE117 := n5_; clear n0_ n1_ n2_ n3_ n4_ n5_; clear hb hbox hg) | ((with_reducible refine gate_dst (N := 8) rfl ?_); (try (refine gate_guard (by rfl) ?_; dsimp only)); refine box_event ?hg (N := 8) ?hd (cs := #[.int .i64 0, .int .i64 0, .slice none 0 0, .int .i64 0, .bool false]) (t := 80) ?hr ?_; (case hd => rfl); (case hg => rfl); (case hr => first | (go_simp; done) | (go_simp; rfl)); intro gb118 hg w13 hbox hb; have n0_ := Aside0.mk (Kd.R_below (by (with_reducible repeat (first | apply Kd.R_alloc | apply Kd.R_drewN | apply Kd.R_drew)); exact HO107.out) hb); have n1_ := Aside0.mk (Kd.R_below (by (with_reducible repeat (first | apply Kd.R_alloc | apply Kd.R_drewN | apply Kd.R_drew)); exact HO114.out) hb); have n2_ := Aside0.mk (blk_below (g := gb117) (o := .cells #[.int .i64 0, .int .i64 0, .slice none 0 0, .int .i64 0, .bool false] 54 (0, 0)) (by (with_reducible repeat (first | refine blk_drewN ?_ _ | refine blk_drew ?_ | refine blk_alloc ?_ _)); exact BK117.out) hb); have n3_ := Aside0.mk (below_step (by repeat (first | (with_reducible first | exact HB.out | apply below_alloc | apply pw_below_drewN | apply below_drew1 | refine below_set ?_ GE117.out) | exact HB.out)) hb); have n4_ := Aside0.mk (hbox); have n5_ := Aside0.mk ((by rw [hg]; exact (below_size (by repeat (first | (with_reducible first | exact HB.out | apply below_alloc | apply pw_below_drewN | apply below_drew1 | refine below_set ?_ GE117.out) | exact HB.out))) : w.heap.size ≤ gb118)); have n6_ := Aside0.mk ((by rw [hg]; exact (below_size (by repeat (first | (with_reducible first | exact HB.out | apply below_alloc | apply pw_below_drewN | apply below_drew1 | refine below_set ?_ GE117.out) | exact HB.out))) : w.heap.size ≤ gb118)); have n7_ := Aside0.mk ((by rw [hg]; exact Nat.ne_of_lt (blk_lt (g := gb117) (o := .cells #[.int .i64 0, .int .i64 0, .slice none 0 0, .int .i64 0, .bool false] 54 (0, 0)) (by (with_reducible repeat (first | refine blk_drewN ?_ _ | refine blk_drew ?_ | refine blk_alloc ?_ _)); exact BK117.out)) : gb117 ≠ gb118)); have n8_ := Aside0.mk ((by rw [hg]; exact Nat.ne_of_gt (blk_lt (g := gb117) (o := .cells #[.int .i64 0, .int .i64 0, .slice none 0 0, .int .i64 0, .bool false] 54 (0, 0)) (by (with_reducible repeat (first | refine blk_drewN ?_ _ | refine blk_drew ?_ | refine blk_alloc ?_ _)); exact BK117.out)) : gb118 ≠ gb117)); clear HO107; clear HO114; clear BK117; clear HB; have HO107 := n0_; have HO114 := n1_; have BK117 := n2_; have HB := n3_; have BK118 := n4_; have GW118 := n5_; have GE118 := n6_; have NB117_118 := n7_; have NB118_117 := n8_; clear n0_ n1_ n2_ n3_ n4_ n5_ n6_ n7_ n8_; clear hb hbox hg; have hnb14 := NB117_118.out; have hnc14 := NB118_117.out; have hcz15_0 : w13.cell? ⟨gb117, 0, none⟩ = some (.int .i64 0) := (blk_cell BK117.out 0).trans rfl; have hcz15_1 : w13.cell? ⟨gb117, 1, none⟩ = some (.int .i64 0) := (blk_cell BK117.out 1).trans rfl; have hcz15_2 : w13.cell? ⟨gb117, 2, none⟩ = some (.slice none 0 0) := (blk_cell BK117.out 2).trans rfl; have hcz15_3 : w13.cell? ⟨gb117, 3, none⟩ = some (.int .i64 0) := (blk_cell BK117.out 3).trans rfl; have hcz15_4 : w13.cell? ⟨gb117, 4, none⟩ = some (.bool false) := (blk_cell BK117.out 4).trans rfl; have hfz15_0 := blk_frozen BK117.out 0; have hfz15_1 := blk_frozen BK117.out 1; have hfz15_2 := blk_frozen BK117.out 2; have hfz15_3 := blk_frozen BK117.out 3; have hfz15_4 := blk_frozen BK117.out 4; obtain ⟨Ao16, co16, eo16⟩ := Kd.R_slice HO107.out; subst eo16; have hcz17_0 : w13.cell? ⟨gb118, 0, none⟩ = some (.int .i64 0) := (blk_cell BK118.out 0).trans rfl; have hcz17_1 : w13.cell? ⟨gb118, 1, none⟩ = some (.int .i64 0) := (blk_cell BK118.out 1).trans rfl; have hcz17_2 : w13.cell? ⟨gb118, 2, none⟩ = some (.slice none 0 0) := (blk_cell BK118.out 2).trans rfl; have hcz17_3 : w13.cell? ⟨gb118, 3, none⟩ = some (.int .i64 0) := (blk_cell BK118.out 3).trans rfl; have hcz17_4 : w13.cell? ⟨gb118, 4, none⟩ = some (.bool false) := (blk_cell BK118.out 4).trans rfl; have hfz17_0 := blk_frozen BK118.out 0; have hfz17_1 := blk_frozen BK118.out 1; have hfz17_2 := blk_frozen BK118.out 2; have hfz17_3 := blk_frozen BK118.out 3; have hfz17_4 := blk_frozen BK118.out 4; obtain ⟨Ao18, co18, eo18⟩ := Kd.R_slice HO114.out; subst eo18))
    go_loopg [9] k (fun kq v9 w' => ∃ (x9_1 : Int) (x118000_1 : Int) (x118001_1 : Int) (x118002_1 : List Int) (x118003_1 : Int) (x118004_1 : Bool) (x119000_1 : Int) (x119001_1 : Int) (x119002_1 : List ByteArray) (x119003_1 : Int) (x119004_1 : Bool) (u118002 : Value) (u119002 : Value), v9 = .int .i64 x9_1 ∧ Aside0 (revetmentlaw04_ZonePlays.l0 kq l2 x9_1 x118000_1 x118001_1 x118002_1 x118003_1 x118004_1 x119000_1 x119001_1 x119002_1 x119003_1 x119004_1 = some r) ∧ Aside0 (kq ≤ k) ∧ Aside0 (Kd.R (Kd.int .u8) 5 w' w.heap.size (fun _ => True) u118002 x118002_1) ∧ Aside0 (Kd.R Kd.string 9 w' w.heap.size (fun _ => True) u119002 x119002_1) ∧ Aside0 (w'.heap[gb117]? = some (.cells #[.int .i64 x118000_1, .int .i64 x118001_1, u118002, .int .i64 x118003_1, .bool x118004_1] 54 (0, 0))) ∧ Aside0 (w'.heap[gb118]? = some (.cells #[.int .i64 x119000_1, .int .i64 x119001_1, u119002, .int .i64 x119003_1, .bool x119004_1] 80 (0, 0))) ∧ Aside0 (Below w.heap.size w w'))
    case atStart => exact ⟨(0), (t103), (t104), (t105), (t108), (t109), (t110), (t111), (t112), (t115), (t116), (.slice Ao16 t105.length co16), (.slice Ao18 t112.length co18), (by first | rfl | (simp; done) | (simp [*]; done)), H', ⟨Nat.le_refl _⟩, ⟨by (with_reducible repeat (first | apply Kd.R_alloc | apply Kd.R_drewN | apply Kd.R_drew)); exact Kd.R_mono (Kd.R_far (p := ⟨gb118, 4, none⟩) (Kd.R_far (p := ⟨gb118, 3, none⟩) (Kd.R_far (p := ⟨gb118, 2, none⟩) (Kd.R_far (p := ⟨gb118, 1, none⟩) (Kd.R_far (p := ⟨gb118, 0, none⟩) (Kd.R_far (p := ⟨gb117, 4, none⟩) (Kd.R_far (p := ⟨gb117, 3, none⟩) (Kd.R_far (p := ⟨gb117, 2, none⟩) (Kd.R_far (p := ⟨gb117, 1, none⟩) (Kd.R_far (p := ⟨gb117, 0, none⟩) (Kd.R_types (Kd.R_types HO107.out BK117.out (by decide)) BK118.out (by decide)) (fun _ hk => hk.1.2) (.int .i64 t103)) (fun _ hk => hk.1.2) (.int .i64 t104)) (fun _ hk => hk.1.2) (.slice Ao16 t105.length co16)) (fun _ hk => hk.1.2) (.int .i64 t108)) (fun _ hk => hk.1.2) (.bool t109)) (fun _ hk => hk.2) (.int .i64 t110)) (fun _ hk => hk.2) (.int .i64 t111)) (fun _ hk => hk.2) (.slice Ao18 t112.length co18)) (fun _ hk => hk.2) (.int .i64 t115)) (fun _ hk => hk.2) (.bool t116)) (fun _ hk => trivial)⟩, ⟨by (with_reducible repeat (first | apply Kd.R_alloc | apply Kd.R_drewN | apply Kd.R_drew)); exact Kd.R_mono (Kd.R_far (p := ⟨gb118, 4, none⟩) (Kd.R_far (p := ⟨gb118, 3, none⟩) (Kd.R_far (p := ⟨gb118, 2, none⟩) (Kd.R_far (p := ⟨gb118, 1, none⟩) (Kd.R_far (p := ⟨gb118, 0, none⟩) (Kd.R_far (p := ⟨gb117, 4, none⟩) (Kd.R_far (p := ⟨gb117, 3, none⟩) (Kd.R_far (p := ⟨gb117, 2, none⟩) (Kd.R_far (p := ⟨gb117, 1, none⟩) (Kd.R_far (p := ⟨gb117, 0, none⟩) (Kd.R_types (Kd.R_types HO114.out BK117.out (by decide)) BK118.out (by decide)) (fun _ hk => hk.1.2) (.int .i64 t103)) (fun _ hk => hk.1.2) (.int .i64 t104)) (fun _ hk => hk.1.2) (.slice Ao16 t105.length co16)) (fun _ hk => hk.1.2) (.int .i64 t108)) (fun _ hk => hk.1.2) (.bool t109)) (fun _ hk => hk.2) (.int .i64 t110)) (fun _ hk => hk.2) (.int .i64 t111)) (fun _ hk => hk.2) (.slice Ao18 t112.length co18)) (fun _ hk => hk.2) (.int .i64 t115)) (fun _ hk => hk.2) (.bool t116)) (fun _ hk => trivial)⟩, ⟨by (with_reducible repeat (first | refine blk_drewN ?_ _ | refine blk_drew ?_ | refine blk_alloc ?_ _)); refine blk_far ?_ NB117_118.out _; (with_reducible repeat (first | refine blk_drewN ?_ _ | refine blk_drew ?_ | refine blk_alloc ?_ _)); refine blk_far ?_ NB117_118.out _; (with_reducible repeat (first | refine blk_drewN ?_ _ | refine blk_drew ?_ | refine blk_alloc ?_ _)); refine blk_far ?_ NB117_118.out _; (with_reducible repeat (first | refine blk_drewN ?_ _ | refine blk_drew ?_ | refine blk_alloc ?_ _)); refine blk_far ?_ NB117_118.out _; (with_reducible repeat (first | refine blk_drewN ?_ _ | refine blk_drew ?_ | refine blk_alloc ?_ _)); refine blk_far ?_ NB117_118.out _; (with_reducible repeat (first | refine blk_drewN ?_ _ | refine blk_drew ?_ | refine blk_alloc ?_ _)); refine blk_put (cs := #[.int .i64 t103, .int .i64 t104, .slice Ao16 t105.length co16, .int .i64 t108, .bool false]) ?_ 4 _ rfl; (with_reducible repeat (first | refine blk_drewN ?_ _ | refine blk_drew ?_ | refine blk_alloc ?_ _)); refine blk_put (cs := #[.int .i64 t103, .int .i64 t104, .slice Ao16 t105.length co16, .int .i64 0, .bool false]) ?_ 3 _ rfl; (with_reducible repeat (first | refine blk_drewN ?_ _ | refine blk_drew ?_ | refine blk_alloc ?_ _)); refine blk_put (cs := #[.int .i64 t103, .int .i64 t104, .slice none 0 0, .int .i64 0, .bool false]) ?_ 2 _ rfl; (with_reducible repeat (first | refine blk_drewN ?_ _ | refine blk_drew ?_ | refine blk_alloc ?_ _)); refine blk_put (cs := #[.int .i64 t103, .int .i64 0, .slice none 0 0, .int .i64 0, .bool false]) ?_ 1 _ rfl; (with_reducible repeat (first | refine blk_drewN ?_ _ | refine blk_drew ?_ | refine blk_alloc ?_ _)); refine blk_put (cs := #[.int .i64 0, .int .i64 0, .slice none 0 0, .int .i64 0, .bool false]) ?_ 0 _ rfl; (with_reducible repeat (first | refine blk_drewN ?_ _ | refine blk_drew ?_ | refine blk_alloc ?_ _)); exact BK117.out⟩, ⟨by (with_reducible repeat (first | refine blk_drewN ?_ _ | refine blk_drew ?_ | refine blk_alloc ?_ _)); refine blk_put (cs := #[.int .i64 t110, .int .i64 t111, .slice Ao18 t112.length co18, .int .i64 t115, .bool false]) ?_ 4 _ rfl; (with_reducible repeat (first | refine blk_drewN ?_ _ | refine blk_drew ?_ | refine blk_alloc ?_ _)); refine blk_put (cs := #[.int .i64 t110, .int .i64 t111, .slice Ao18 t112.length co18, .int .i64 0, .bool false]) ?_ 3 _ rfl; (with_reducible repeat (first | refine blk_drewN ?_ _ | refine blk_drew ?_ | refine blk_alloc ?_ _)); refine blk_put (cs := #[.int .i64 t110, .int .i64 t111, .slice none 0 0, .int .i64 0, .bool false]) ?_ 2 _ rfl; (with_reducible repeat (first | refine blk_drewN ?_ _ | refine blk_drew ?_ | refine blk_alloc ?_ _)); refine blk_put (cs := #[.int .i64 t110, .int .i64 0, .slice none 0 0, .int .i64 0, .bool false]) ?_ 1 _ rfl; (with_reducible repeat (first | refine blk_drewN ?_ _ | refine blk_drew ?_ | refine blk_alloc ?_ _)); refine blk_put (cs := #[.int .i64 0, .int .i64 0, .slice none 0 0, .int .i64 0, .bool false]) ?_ 0 _ rfl; (with_reducible repeat (first | refine blk_drewN ?_ _ | refine blk_drew ?_ | refine blk_alloc ?_ _)); refine blk_far ?_ NB118_117.out _; (with_reducible repeat (first | refine blk_drewN ?_ _ | refine blk_drew ?_ | refine blk_alloc ?_ _)); refine blk_far ?_ NB118_117.out _; (with_reducible repeat (first | refine blk_drewN ?_ _ | refine blk_drew ?_ | refine blk_alloc ?_ _)); refine blk_far ?_ NB118_117.out _; (with_reducible repeat (first | refine blk_drewN ?_ _ | refine blk_drew ?_ | refine blk_alloc ?_ _)); refine blk_far ?_ NB118_117.out _; (with_reducible repeat (first | refine blk_drewN ?_ _ | refine blk_drew ?_ | refine blk_alloc ?_ _)); refine blk_far ?_ NB118_117.out _; (with_reducible repeat (first | refine blk_drewN ?_ _ | refine blk_drew ?_ | refine blk_alloc ?_ _)); exact BK118.out⟩, ⟨by repeat (first | (with_reducible first | exact HB.out | apply below_alloc | apply pw_below_drewN | apply below_drew1 | refine below_set ?_ GE117.out | refine below_set ?_ GE118.out) | exact HB.out)⟩⟩
    case round =>
      clear H'
      try clear c1
      try clear c2
      try clear p2
      try clear c3
      try clear c4
      try clear c5
      try clear c7
      try clear c14
      try clear hcz15_0
      try clear hcz15_1
      try clear hcz15_2
      try clear hcz15_3
      try clear hcz15_4
      try clear hcz17_0
      try clear hcz17_1
      try clear hcz17_2
      try clear hcz17_3
      try clear hcz17_4
      try clear hfz15_0
      try clear hfz15_1
      try clear hfz15_2
      try clear hfz15_3
      try clear hfz15_4
      try clear hfz17_0
      try clear hfz17_1
      try clear hfz17_2
      try clear hfz17_3
      try clear hfz17_4
      obtain ⟨x9_1, x118000_1, x118001_1, x118002_1, x118003_1, x118004_1, x119000_1, x119001_1, x119002_1, x119003_1, x119004_1, u118002, u119002, rfl, HA, HK1, HO_118002, HO_119002, BK117, BK118, HB⟩ := hrel
      cases gk with
      | zero => exact absurd HA.out (by simp [revetmentlaw04_ZonePlays.l0])
      | succ k1 =>
        have H := HA.out
        clear HA
        simp only [revetmentlaw04_ZonePlays.l0] at H
        by_cases c19 : x9_1 < (l2.length : Int)
        · rw [if_pos c19] at H
          have c19b0 : decide (x9_1 < (l2.length : Int)) = true := decide_eq_true c19
          clear c19
          by_cases c20 : 0 ≤ x9_1
          · rw [if_pos c20] at H
            have c20b0 : decide (0 ≤ x9_1) = true := decide_eq_true c20
            clear c20
            replace H := Option.bind_eq_some_iff.mp H
            obtain ⟨⟨t121, t122, t123, t126, t127, t128⟩, A210, H⟩ := H
            replace H : ((revetmentlaw04_should.f k1 x119000_1 x119001_1 x119002_1 x119003_1 x119004_1 ((rd_T57 l2 x9_1).f0) ((rd_T57 l2 x9_1).f1) ((rd_T57 l2 x9_1).f2)).bind fun bt131 => ((zone_Read.f t121 t122 t123 t126 t127 0 (bt131.2.2.1.length : Int)).bind fun bt140 => ((revetmentref04_Read.f k1 bt131.1 bt131.2.1 bt131.2.2.1 bt131.2.2.2.1 bt131.2.2.2.2.1 0 (bt131.2.2.1.length : Int)).bind fun bt144 => ((zone_Look.f t121 t122 t123 t126 t127).bind fun bt146 => (if t128 = bt131.2.2.2.2.2 then ((revetmentlaw04_code.f bt140.2).bind fun t150 => (if t150 = 0 then (if (strOfNums bt140.1).toList = bt144.1.toList then (if bt146.1 = (bt131.2.2.1.length : Int) then (if bt146.2.1 = bt131.2.2.2.1 then (if (bt146.2.2 != bt131.2.2.2.2.1) = true then (none) else ((zone_Active.f t121 t122 t123 t126 t127).bind fun t151 => ((revetmentref04_Active.f bt131.1 bt131.2.1 bt131.2.2.1 bt131.2.2.2.1 bt131.2.2.2.2.1).bind fun t152 => (if (t151 != t152) = true then (none) else (revetmentlaw04_ZonePlays.l0 k1 l2 (wrap64 (x9_1 + 1)) t121 t122 t123 t126 t127 bt131.1 bt131.2.1 bt131.2.2.1 bt131.2.2.2.1 bt131.2.2.2.2.1))))) else (none)) else (none)) else (none)) else (none))) else (none)))))) = some r := H
            have A21 := Aside0.mk A210
            clear A210
            replace H := Option.bind_eq_some_iff.mp H
            obtain ⟨⟨t131, t132, t133, t136, t137, t138⟩, A220, H⟩ := H
            replace H : ((zone_Read.f t121 t122 t123 t126 t127 0 (t133.length : Int)).bind fun bt140 => ((revetmentref04_Read.f k1 t131 t132 t133 t136 t137 0 (t133.length : Int)).bind fun bt144 => ((zone_Look.f t121 t122 t123 t126 t127).bind fun bt146 => (if t128 = t138 then ((revetmentlaw04_code.f bt140.2).bind fun t150 => (if t150 = 0 then (if (strOfNums bt140.1).toList = bt144.1.toList then (if bt146.1 = (t133.length : Int) then (if bt146.2.1 = t136 then (if (bt146.2.2 != t137) = true then (none) else ((zone_Active.f t121 t122 t123 t126 t127).bind fun t151 => ((revetmentref04_Active.f t131 t132 t133 t136 t137).bind fun t152 => (if (t151 != t152) = true then (none) else (revetmentlaw04_ZonePlays.l0 k1 l2 (wrap64 (x9_1 + 1)) t121 t122 t123 t126 t127 t131 t132 t133 t136 t137))))) else (none)) else (none)) else (none)) else (none))) else (none))))) = some r := H
            have A22 := Aside0.mk A220
            clear A220
            replace H := Option.bind_eq_some_iff.mp H
            obtain ⟨⟨t140, t143⟩, A230, H⟩ := H
            replace H : ((revetmentref04_Read.f k1 t131 t132 t133 t136 t137 0 (t133.length : Int)).bind fun bt144 => ((zone_Look.f t121 t122 t123 t126 t127).bind fun bt146 => (if t128 = t138 then ((revetmentlaw04_code.f t143).bind fun t150 => (if t150 = 0 then (if (strOfNums t140).toList = bt144.1.toList then (if bt146.1 = (t133.length : Int) then (if bt146.2.1 = t136 then (if (bt146.2.2 != t137) = true then (none) else ((zone_Active.f t121 t122 t123 t126 t127).bind fun t151 => ((revetmentref04_Active.f t131 t132 t133 t136 t137).bind fun t152 => (if (t151 != t152) = true then (none) else (revetmentlaw04_ZonePlays.l0 k1 l2 (wrap64 (x9_1 + 1)) t121 t122 t123 t126 t127 t131 t132 t133 t136 t137))))) else (none)) else (none)) else (none)) else (none))) else (none)))) = some r := H
            have A23 := Aside0.mk A230
            clear A230
            replace H := Option.bind_eq_some_iff.mp H
            obtain ⟨⟨t144, t145⟩, A240, H⟩ := H
            replace H : ((zone_Look.f t121 t122 t123 t126 t127).bind fun bt146 => (if t128 = t138 then ((revetmentlaw04_code.f t143).bind fun t150 => (if t150 = 0 then (if (strOfNums t140).toList = t144.toList then (if bt146.1 = (t133.length : Int) then (if bt146.2.1 = t136 then (if (bt146.2.2 != t137) = true then (none) else ((zone_Active.f t121 t122 t123 t126 t127).bind fun t151 => ((revetmentref04_Active.f t131 t132 t133 t136 t137).bind fun t152 => (if (t151 != t152) = true then (none) else (revetmentlaw04_ZonePlays.l0 k1 l2 (wrap64 (x9_1 + 1)) t121 t122 t123 t126 t127 t131 t132 t133 t136 t137))))) else (none)) else (none)) else (none)) else (none))) else (none))) = some r := H
            have A24 := Aside0.mk A240
            clear A240
            replace H := Option.bind_eq_some_iff.mp H
            obtain ⟨⟨t146, t147, t148⟩, A250, H⟩ := H
            replace H : (if t128 = t138 then ((revetmentlaw04_code.f t143).bind fun t150 => (if t150 = 0 then (if (strOfNums t140).toList = t144.toList then (if t146 = (t133.length : Int) then (if t147 = t136 then (if (t148 != t137) = true then (none) else ((zone_Active.f t121 t122 t123 t126 t127).bind fun t151 => ((revetmentref04_Active.f t131 t132 t133 t136 t137).bind fun t152 => (if (t151 != t152) = true then (none) else (revetmentlaw04_ZonePlays.l0 k1 l2 (wrap64 (x9_1 + 1)) t121 t122 t123 t126 t127 t131 t132 t133 t136 t137))))) else (none)) else (none)) else (none)) else (none))) else (none)) = some r := H
            have A25 := Aside0.mk A250
            clear A250
            by_cases c26 : t128 = t138
            · rw [if_pos c26] at H
              have c26b0 : (t128 == t138) = true := beq_iff_eq.mpr c26
              have c26b1 : (t128 != t138) = false := bne_eq_false_iff_eq.mpr c26
              clear c26
              replace H := Option.bind_eq_some_iff.mp H
              obtain ⟨t150, A270, H⟩ := H
              replace H : (if t150 = 0 then (if (strOfNums t140).toList = t144.toList then (if t146 = (t133.length : Int) then (if t147 = t136 then (if (t148 != t137) = true then (none) else ((zone_Active.f t121 t122 t123 t126 t127).bind fun t151 => ((revetmentref04_Active.f t131 t132 t133 t136 t137).bind fun t152 => (if (t151 != t152) = true then (none) else (revetmentlaw04_ZonePlays.l0 k1 l2 (wrap64 (x9_1 + 1)) t121 t122 t123 t126 t127 t131 t132 t133 t136 t137))))) else (none)) else (none)) else (none)) else (none)) = some r := H
              have A27 := Aside0.mk A270
              clear A270
              by_cases c28 : t150 = 0
              · rw [if_pos c28] at H
                have c28b0 : (t150 == 0) = true := beq_iff_eq.mpr c28
                have c28b1 : (t150 != 0) = false := bne_eq_false_iff_eq.mpr c28
                clear c28
                by_cases c29 : (strOfNums t140).toList = t144.toList
                · rw [if_pos c29] at H
                  have c29b0 : ((strOfNums t140).toList == t144.toList) = true := beq_iff_eq.mpr c29
                  have c29b1 : ((strOfNums t140).toList != t144.toList) = false := bne_eq_false_iff_eq.mpr c29
                  clear c29
                  by_cases c30 : t146 = (t133.length : Int)
                  · rw [if_pos c30] at H
                    have c30b0 : (t146 == (t133.length : Int)) = true := beq_iff_eq.mpr c30
                    have c30b1 : (t146 != (t133.length : Int)) = false := bne_eq_false_iff_eq.mpr c30
                    clear c30
                    by_cases c31 : t147 = t136
                    · rw [if_pos c31] at H
                      have c31b0 : (t147 == t136) = true := beq_iff_eq.mpr c31
                      have c31b1 : (t147 != t136) = false := bne_eq_false_iff_eq.mpr c31
                      clear c31
                      by_cases c32 : (t148 != t137) = true
                      · rw [if_pos c32] at H
                        exact absurd H (by simp)
                      · rw [if_neg c32] at H
                        have c32b0 : (t148 != t137) = false := by simpa using c32
                        (try (have c32b1 : decide (t148 = t137) = true := by simpa using c32))
                        (try (have c32b2 : (t148 == t137) = true := by simpa using c32))
                        clear c32
                        replace H := Option.bind_eq_some_iff.mp H
                        obtain ⟨t151, A330, H⟩ := H
                        replace H : ((revetmentref04_Active.f t131 t132 t133 t136 t137).bind fun t152 => (if (t151 != t152) = true then (none) else (revetmentlaw04_ZonePlays.l0 k1 l2 (wrap64 (x9_1 + 1)) t121 t122 t123 t126 t127 t131 t132 t133 t136 t137))) = some r := H
                        have A33 := Aside0.mk A330
                        clear A330
                        replace H := Option.bind_eq_some_iff.mp H
                        obtain ⟨t152, A340, H⟩ := H
                        replace H : (if (t151 != t152) = true then (none) else (revetmentlaw04_ZonePlays.l0 k1 l2 (wrap64 (x9_1 + 1)) t121 t122 t123 t126 t127 t131 t132 t133 t136 t137)) = some r := H
                        have A34 := Aside0.mk A340
                        clear A340
                        by_cases c35 : (t151 != t152) = true
                        · rw [if_pos c35] at H
                          exact absurd H (by simp)
                        · rw [if_neg c35] at H
                          have c35b0 : (t151 != t152) = false := by simpa using c35
                          (try (have c35b1 : decide (t151 = t152) = true := by simpa using c35))
                          (try (have c35b2 : (t151 == t152) = true := by simpa using c35))
                          clear c35
                          have H' := Aside0.mk H
                          clear H
                          obtain ⟨Ao36, co36, eo36⟩ := Kd.R_slice HO_118002.out
                          subst eo36
                          try go_wp2
                          have n0_ := Aside0.mk (Kd.R_drew HO_118002.out)
                          have n1_ := Aside0.mk (Kd.R_drew HO_119002.out)
                          have n2_ := Aside0.mk (blk_drew BK117.out)
                          have n3_ := Aside0.mk (blk_drew BK118.out)
                          have n4_ := Aside0.mk (below_drew1 HB.out)
                          clear HO_118002
                          clear HO_119002
                          clear BK117
                          clear BK118
                          clear HB
                          have HO_118002 := n0_
                          have HO_119002 := n1_
                          have BK117 := n2_
                          have BK118 := n3_
                          have HB := n4_
                          clear n0_ n1_ n2_ n3_ n4_
                          have p120 : 0 ≤ (x9_1 : Int) := of_decide_eq_true (by first | (with_reducible assumption) | assumption)
                          have q120 : x9_1 < (l2.length : Int) := of_decide_eq_true (by first | (with_reducible assumption) | assumption)
                          obtain ⟨ad120, A120_1, c120_1, e120, hx120_0, hx120_1, hx120_2, hl120_1, hi120_1⟩ := at_T57 HR2.out x9_1 p120 q120
                          have hw120_2 := hx120_2
                          have hw120_1 := hx120_1
                          have hw120_0 := hx120_0
                          cases e120
                          replace hx120_0 := (HB.out.cell (World.block_lt_of_cell? w _ hx120_0)).trans hx120_0
                          replace hx120_1 := (HB.out.cell (World.block_lt_of_cell? w _ hx120_1)).trans hx120_1
                          replace hx120_2 := (HB.out.cell (World.block_lt_of_cell? w _ hx120_2)).trans hx120_2
                          have HR120_1 := Aside0.mk hi120_1
                          have HC120_1 := Aside0.mk hl120_1
                          clear hi120_1 hl120_1
                          replace p120 := eq_true p120
                          replace q120 := eq_true q120
                          refine start_ (n := 12) (S := fun w' => w'.cell? ⟨gb117, 0, none⟩ = some (.int .i64 x118000_1) ∧ w'.cell? ⟨gb117, 1, none⟩ = some (.int .i64 x118001_1) ∧ w'.cell? ⟨gb117, 2, none⟩ = some (.slice Ao36 x118002_1.length co36) ∧ w'.cell? ⟨gb117, 3, none⟩ = some (.int .i64 x118003_1) ∧ w'.cell? ⟨gb117, 4, none⟩ = some (.bool x118004_1) ∧ w'.cell? (ad120.add ((x9_1).toNat * 3)) = some (.int .i64 ((rd_T57 l2 x9_1).f0)) ∧ w'.cell? ⟨(ad120.add ((x9_1).toNat * 3)).block, (ad120.add ((x9_1).toNat * 3)).off + 1, none⟩ = some (.slice A120_1 ((rd_T57 l2 x9_1).f1).length c120_1) ∧ w'.cell? ⟨(ad120.add ((x9_1).toNat * 3)).block, (ad120.add ((x9_1).toNat * 3)).off + 2, none⟩ = some (.int .i64 ((rd_T57 l2 x9_1).f2))) (ds := []) #[false, false, false, false, false, false, false, false, false, false, false, false] (by kernel_rfl) rfl rfl ⟨(blk_cell BK117.out 0).trans rfl, (blk_cell BK117.out 1).trans rfl, (blk_cell BK117.out 2).trans rfl, (blk_cell BK117.out 3).trans rfl, (blk_cell BK117.out 4).trans rfl, ((HB.out.cell (World.block_lt_of_cell? w _ hw120_0)).trans hw120_0), ((HB.out.cell (World.block_lt_of_cell? w _ hw120_1)).trans hw120_1), ((HB.out.cell (World.block_lt_of_cell? w _ hw120_2)).trans hw120_2)⟩ (fun hHeld => ?_); refine with_tabW revetmentlaw04_ZonePlays.tab7 revetmentlaw04_ZonePlays.bits7 (fun HT_ HW_ => ?_)
                          generalize wr.drew = w37 at HO_118002 HO_119002 BK117 BK118 HB HR120_1 hx120_0 hx120_1 hx120_2 hHeld ⊢
                          refine pure_ (i := 1) (N := some 36) (v := ?_) (a' := ?_) #[false, true, false, false, false, false, false, false, false, false, false, false] rfl rfl (any_of HT_.out (by kernel_rfl)) (fun _ _ _ h => h) (Or.inl ⟨by rfl, ?_⟩) ?_ ?_
                          rotate_left
                          · intro w'
                            go_simp
                            with_reducible rfl
                          rotate_left
                          · simp only [Act.put, List.setIfInBounds_toArray, List.set_cons_zero, List.set_cons_succ, i64_w, i32_w]
                            rfl
                          refine pure_ (i := 2) (N := some 37) (v := ?_) (a' := ?_) #[false, true, true, false, false, false, false, false, false, false, false, false] rfl rfl (any_of HT_.out (by kernel_rfl)) (fun _ _ _ h => h) (Or.inl ⟨by rfl, ?_⟩) ?_ ?_
                          rotate_left
                          · intro w'
                            go_simp
                            with_reducible rfl
                          rotate_left
                          · simp only [Act.put, List.setIfInBounds_toArray, List.set_cons_zero, List.set_cons_succ, i64_w, i32_w]
                            rfl
                          refine pure_ (i := 3) (N := some 38) (v := ?_) (a' := ?_) #[false, true, true, true, false, false, false, false, false, false, false, false] rfl rfl (any_of HT_.out (by kernel_rfl)) (fun _ _ _ h => h) (Or.inl ⟨by rfl, ?_⟩) ?_ ?_
                          rotate_left
                          · intro w'
                            go_simp
                            with_reducible rfl
                          rotate_left
                          · simp only [Act.put, List.setIfInBounds_toArray, List.set_cons_zero, List.set_cons_succ, i64_w, i32_w]
                            rfl
                          refine take_ (i := 0) (N := some 35) (v := ?_) (a' := ?_) #[true, true, true, true, false, false, false, false, false, false, false, false] rfl rfl (take_ofW HT_.out HW_.out (by kernel_rfl)) (fun _ _ _ h => h) (Or.inl ⟨by rfl, ?_⟩) hHeld ?_ ?_
                          rotate_left
                          · rintro w' ⟨s0, s1, s2, s3, s4, s5, s6, s7⟩
                            go_simp
                            with_reducible rfl
                          rotate_left
                          · simp only [Act.put, List.setIfInBounds_toArray, List.set_cons_zero, List.set_cons_succ, i64_w, i32_w]
                            rfl
                          refine take_ (i := 4) (N := some 39) (v := ?_) (a' := ?_) #[true, true, true, true, true, false, false, false, false, false, false, false] rfl rfl (take_ofW HT_.out HW_.out (by kernel_rfl)) (fun _ _ _ h => h) (Or.inl ⟨by rfl, ?_⟩) hHeld ?_ ?_
                          rotate_left
                          · rintro w' ⟨s0, s1, s2, s3, s4, s5, s6, s7⟩
                            go_simp
                            with_reducible rfl
                          rotate_left
                          · simp only [Act.put, List.setIfInBounds_toArray, List.set_cons_zero, List.set_cons_succ, i64_w, i32_w]
                            rfl
                          refine join_ (σ := Value × Nat) 2 #[true, true, true, true, true, true, true, true, true, true, false, false] (fun s_ => [(40, .tuple #[.agg #[.int .i64 t121, .int .i64 t122, s_.1, .int .i64 t126, .bool t127], .int .i64 t128]), (10, .pointer (some ⟨s_.2, 0, none⟩)), (34, .tuple #[.agg #[.int .i64 t121, .int .i64 t122, s_.1, .int .i64 t126, .bool t127], .int .i64 t128]), (41, .agg #[.int .i64 t121, .int .i64 t122, s_.1, .int .i64 t126, .bool t127]), (42, .int .i64 t128)]) (fun s_ w' => (w'.cell? ⟨gb117, 0, none⟩ = some (.int .i64 x118000_1) ∧ w'.cell? ⟨gb117, 1, none⟩ = some (.int .i64 x118001_1) ∧ w'.cell? ⟨gb117, 2, none⟩ = some (.slice Ao36 x118002_1.length co36) ∧ w'.cell? ⟨gb117, 3, none⟩ = some (.int .i64 x118003_1) ∧ w'.cell? ⟨gb117, 4, none⟩ = some (.bool x118004_1) ∧ w'.cell? (ad120.add ((x9_1).toNat * 3)) = some (.int .i64 ((rd_T57 l2 x9_1).f0)) ∧ w'.cell? ⟨(ad120.add ((x9_1).toNat * 3)).block, (ad120.add ((x9_1).toNat * 3)).off + 1, none⟩ = some (.slice A120_1 ((rd_T57 l2 x9_1).f1).length c120_1) ∧ w'.cell? ⟨(ad120.add ((x9_1).toNat * 3)).block, (ad120.add ((x9_1).toNat * 3)).off + 2, none⟩ = some (.int .i64 ((rd_T57 l2 x9_1).f2))) ∧ (Kd.R (Kd.int .u8) 5 w' w.heap.size (fun _ => True) s_.1 t123) ∧ (Kd.R Kd.string 9 w' w.heap.size (fun _ => True) u119002 x119002_1) ∧ (w'.heap[gb117]? = some (.cells #[.int .i64 x118000_1, .int .i64 x118001_1, .slice Ao36 x118002_1.length co36, .int .i64 x118003_1, .bool x118004_1] 54 (0, 0))) ∧ (w'.heap[gb118]? = some (.cells #[.int .i64 x119000_1, .int .i64 x119001_1, u119002, .int .i64 x119003_1, .bool x119004_1] 80 (0, 0))) ∧ (w'.heap[s_.2]? = some (.cells #[.int .i64 0, .int .i64 0, .slice none 0 0, .int .i64 0, .bool false] 54 (0, 0))) ∧ (w.heap.size ≤ s_.2) ∧ (w.heap.size ≤ s_.2) ∧ (gb117 ≠ s_.2) ∧ (s_.2 ≠ gb117) ∧ (gb118 ≠ s_.2) ∧ (s_.2 ≠ gb118) ∧ (Below w.heap.size w w')) ?_ ?_
                          rotate_left
                          · intro hCont
                            refine two_ (i := 5) (j := 9) (Ni := some 40) (Nj := some 10) #[true, true, true, true, true, true, false, false, false, false, false, false] #[true, true, true, true, true, false, false, false, false, true, false, false] rfl rfl rfl rfl (two_of HT_.out (by kernel_rfl)) (by decide) (by decide) (fun K hK => ?_) (fun K hK => ?_)
                            · skip
                              refine goes_ Try.func36 (by kernel_rfl) rfl #[.agg #[.int .i64 x118000_1, .int .i64 x118001_1, .slice Ao36 x118002_1.length co36, .int .i64 x118003_1, .bool x118004_1], .agg #[.int .i64 ((rd_T57 l2 x9_1).f0), .slice A120_1 ((rd_T57 l2 x9_1).f1).length c120_1, .int .i64 ((rd_T57 l2 x9_1).f2)]] (by rfl) rfl rfl (by (try simp only [List.map_toArray, List.map_cons, List.map_nil]); first | done | rfl | (simp only [List.length_drop, List.length_take]; rfl)) ?_
                              with_reducible refine (revetmentlaw04_does.calls k1 x118000_1 x118001_1 (fun k_ => some k_ = (.slice Ao36 x118002_1.length co36 : Value).ownBlock) (.slice Ao36 x118002_1.length co36) x118002_1 x118003_1 x118004_1 ((rd_T57 l2 x9_1).f0) (fun k_ => k_ < w.heap.size) _ _ ((rd_T57 l2 x9_1).f1) ((rd_T57 l2 x9_1).f2) t121 t122 t123 t126 t127 t128 w _ ?side1 ?side2 ?side3 A21.out).mono ?_
                              (case side1 => repeat (first | (with_reducible first | exact HB.out | apply below_alloc | apply pw_below_drewN | apply below_drew1 | refine below_set ?_ GE117.out | refine below_set ?_ GE118.out) | exact HB.out))
                              (case side2 => exact Kd.R_tight rfl HO_118002.out)
                              (case side3 => exact Kd.V_mono (Kd.V_mk HC120_1.out (Kd.F_below (Kd.C_F (Kd.heap_int .u8) HR120_1.out) (by repeat (first | (with_reducible first | exact HB.out | apply below_alloc | apply pw_below_drewN | apply below_drew1 | refine below_set ?_ GE117.out | refine below_set ?_ GE118.out) | exact HB.out)))) (fun k_ hk_ => ⟨hk_, fun e_ => Nat.not_le.2 hk_ (Kd.R_base HO_118002.out k_ e_.symm)⟩))
                              rintro e w38 ⟨v124, rfl, ho0, hb, hkp⟩
                              refine ⟨_, rfl, ?_⟩
                              have n0_ := Aside0.mk (Kd.R_mono (ok' := fun k_ => True) (Kd.R_keptB ((Kd.R_apart' HO_119002.out (Kd.R_typed HO_118002.out) (by decide))) hkp (fun k_ hk_ hs_ => (hk_.2) hs_)) (fun k_ hk_ => trivial))
                              have n1_ := Aside0.mk (blk_kept (by (with_reducible repeat (first | refine blk_drewN ?_ _ | refine blk_drew ?_ | refine blk_alloc ?_ _)); exact BK117.out) hkp (fun hs_ => (fun e_ => (Kd.R_ne HO_118002.out BK117.out (by decide)) e_) hs_))
                              have n2_ := Aside0.mk (blk_kept (by (with_reducible repeat (first | refine blk_drewN ?_ _ | refine blk_drew ?_ | refine blk_alloc ?_ _)); exact BK118.out) hkp (fun hs_ => (fun e_ => (Kd.R_ne HO_118002.out BK118.out (by decide)) e_) hs_))
                              have n3_ := Aside0.mk (Kd.R_mono (ok' := fun k_ => True) ho0 (fun k_ hk_ => trivial))
                              have n4_ := Aside0.mk (hb)
                              clear HO_119002
                              clear BK117
                              clear BK118
                              clear HB
                              clear HO_118002
                              have HO_119002 := n0_
                              have BK117 := n1_
                              have BK118 := n2_
                              have HO125 := n3_
                              have HB := n4_
                              clear n0_ n1_ n2_ n3_ n4_
                              (try clear hb)
                              (try clear hkp)
                              (try clear ho0)
                              refine hK.out _ _ ⟨(blk_cell BK117.out 0).trans rfl, (blk_cell BK117.out 1).trans rfl, (blk_cell BK117.out 2).trans rfl, (blk_cell BK117.out 3).trans rfl, (blk_cell BK117.out 4).trans rfl, ((HB.out.cell (World.block_lt_of_cell? w _ hw120_0)).trans hw120_0), ((HB.out.cell (World.block_lt_of_cell? w _ hw120_1)).trans hw120_1), ((HB.out.cell (World.block_lt_of_cell? w _ hw120_2)).trans hw120_2)⟩ (fun hHeld => ?_)
                              clear hK K
                              refine norm_ (a' := ?_) ?_ ?_
                              rotate_left
                              · show Act.put _ (some 40) _ = _
                                simp only [Act.put, List.setIfInBounds_toArray, List.set_cons_zero, List.set_cons_succ, i64_w, i32_w]
                                rfl
                              refine pure_ (i := 6) (N := some 34) (v := ?_) (a' := ?_) #[true, true, true, true, true, true, true, false, false, false, false, false] rfl rfl (any_of HT_.out (by kernel_rfl)) (fun _ _ _ h => h) (Or.inl ⟨by rfl, ?_⟩) ?_ ?_
                              rotate_left
                              · intro w'
                                go_simp
                                with_reducible rfl
                              rotate_left
                              · simp only [Act.put, List.setIfInBounds_toArray, List.set_cons_zero, List.set_cons_succ, i64_w, i32_w]
                                rfl
                              refine pure_ (i := 7) (N := some 41) (v := ?_) (a' := ?_) #[true, true, true, true, true, true, true, true, false, false, false, false] rfl rfl (any_of HT_.out (by kernel_rfl)) (fun _ _ _ h => h) (Or.inl ⟨by rfl, ?_⟩) ?_ ?_
                              rotate_left
                              · intro w'
                                go_simp
                                with_reducible rfl
                              rotate_left
                              · simp only [Act.put, List.setIfInBounds_toArray, List.set_cons_zero, List.set_cons_succ, i64_w, i32_w]
                                rfl
                              refine pure_ (i := 8) (N := some 42) (v := ?_) (a' := ?_) #[true, true, true, true, true, true, true, true, true, false, false, false] rfl rfl (any_of HT_.out (by kernel_rfl)) (fun _ _ _ h => h) (Or.inl ⟨by rfl, ?_⟩) ?_ ?_
                              rotate_left
                              · intro w'
                                go_simp
                                with_reducible rfl
                              rotate_left
                              · simp only [Act.put, List.setIfInBounds_toArray, List.set_cons_zero, List.set_cons_succ, i64_w, i32_w]
                                rfl
                              refine one_ (i := 9) (N := some 10) #[true, true, true, true, true, true, true, true, true, true, false, false] rfl rfl (one_of HT_.out (by kernel_rfl)) (by decide) (fun K hK => ?_)
                              refine box_step ?hg (N := 10) ?hd (cs := #[.int .i64 0, .int .i64 0, .slice none 0 0, .int .i64 0, .bool false]) (t := 54) ?hr ?_; (case hd => rfl); (case hg => rfl); (case hr => first | (go_simp; done) | (go_simp; rfl))
                              intro gb129 hg w39 hbox hb
                              have n0_ := Aside0.mk (Kd.R_below (by (with_reducible repeat (first | apply Kd.R_alloc | apply Kd.R_drewN | apply Kd.R_drew)); exact HO_119002.out) hb)
                              have n1_ := Aside0.mk (Kd.R_below (by (with_reducible repeat (first | apply Kd.R_alloc | apply Kd.R_drewN | apply Kd.R_drew)); exact HO125.out) hb)
                              have n2_ := Aside0.mk (blk_below (g := gb117) (o := .cells #[.int .i64 x118000_1, .int .i64 x118001_1, .slice Ao36 x118002_1.length co36, .int .i64 x118003_1, .bool x118004_1] 54 (0, 0)) (by (with_reducible repeat (first | refine blk_drewN ?_ _ | refine blk_drew ?_ | refine blk_alloc ?_ _)); exact BK117.out) hb)
                              have n3_ := Aside0.mk (blk_below (g := gb118) (o := .cells #[.int .i64 x119000_1, .int .i64 x119001_1, u119002, .int .i64 x119003_1, .bool x119004_1] 80 (0, 0)) (by (with_reducible repeat (first | refine blk_drewN ?_ _ | refine blk_drew ?_ | refine blk_alloc ?_ _)); exact BK118.out) hb)
                              have n4_ := Aside0.mk (below_step (by repeat (first | (with_reducible first | exact HB.out | apply below_alloc | apply pw_below_drewN | apply below_drew1 | refine below_set ?_ GE117.out | refine below_set ?_ GE118.out) | exact HB.out)) hb)
                              have n5_ := Aside0.mk (hbox)
                              have n6_ := Aside0.mk ((by rw [hg]; exact (below_size (by repeat (first | (with_reducible first | exact HB.out | apply below_alloc | apply pw_below_drewN | apply below_drew1 | refine below_set ?_ GE117.out | refine below_set ?_ GE118.out) | exact HB.out))) : w.heap.size ≤ gb129))
                              have n7_ := Aside0.mk ((by rw [hg]; exact (below_size (by repeat (first | (with_reducible first | exact HB.out | apply below_alloc | apply pw_below_drewN | apply below_drew1 | refine below_set ?_ GE117.out | refine below_set ?_ GE118.out) | exact HB.out))) : w.heap.size ≤ gb129))
                              have n8_ := Aside0.mk ((by rw [hg]; exact Nat.ne_of_lt (blk_lt (g := gb117) (o := .cells #[.int .i64 x118000_1, .int .i64 x118001_1, .slice Ao36 x118002_1.length co36, .int .i64 x118003_1, .bool x118004_1] 54 (0, 0)) (by (with_reducible repeat (first | refine blk_drewN ?_ _ | refine blk_drew ?_ | refine blk_alloc ?_ _)); exact BK117.out)) : gb117 ≠ gb129))
                              have n9_ := Aside0.mk ((by rw [hg]; exact Nat.ne_of_gt (blk_lt (g := gb117) (o := .cells #[.int .i64 x118000_1, .int .i64 x118001_1, .slice Ao36 x118002_1.length co36, .int .i64 x118003_1, .bool x118004_1] 54 (0, 0)) (by (with_reducible repeat (first | refine blk_drewN ?_ _ | refine blk_drew ?_ | refine blk_alloc ?_ _)); exact BK117.out)) : gb129 ≠ gb117))
                              have n10_ := Aside0.mk ((by rw [hg]; exact Nat.ne_of_lt (blk_lt (g := gb118) (o := .cells #[.int .i64 x119000_1, .int .i64 x119001_1, u119002, .int .i64 x119003_1, .bool x119004_1] 80 (0, 0)) (by (with_reducible repeat (first | refine blk_drewN ?_ _ | refine blk_drew ?_ | refine blk_alloc ?_ _)); exact BK118.out)) : gb118 ≠ gb129))
                              have n11_ := Aside0.mk ((by rw [hg]; exact Nat.ne_of_gt (blk_lt (g := gb118) (o := .cells #[.int .i64 x119000_1, .int .i64 x119001_1, u119002, .int .i64 x119003_1, .bool x119004_1] 80 (0, 0)) (by (with_reducible repeat (first | refine blk_drewN ?_ _ | refine blk_drew ?_ | refine blk_alloc ?_ _)); exact BK118.out)) : gb129 ≠ gb118))
                              clear HO_119002
                              clear HO125
                              clear BK117
                              clear BK118
                              clear HB
                              have HO_119002 := n0_
                              have HO125 := n1_
                              have BK117 := n2_
                              have BK118 := n3_
                              have HB := n4_
                              have BK129 := n5_
                              have GW129 := n6_
                              have GE129 := n7_
                              have NB117_129 := n8_
                              have NB129_117 := n9_
                              have NB118_129 := n10_
                              have NB129_118 := n11_
                              clear n0_ n1_ n2_ n3_ n4_ n5_ n6_ n7_ n8_ n9_ n10_ n11_
                              clear hb hbox hg
                              refine hK.out _ _ ⟨(blk_cell BK117.out 0).trans rfl, (blk_cell BK117.out 1).trans rfl, (blk_cell BK117.out 2).trans rfl, (blk_cell BK117.out 3).trans rfl, (blk_cell BK117.out 4).trans rfl, ((HB.out.cell (World.block_lt_of_cell? w _ hw120_0)).trans hw120_0), ((HB.out.cell (World.block_lt_of_cell? w _ hw120_1)).trans hw120_1), ((HB.out.cell (World.block_lt_of_cell? w _ hw120_2)).trans hw120_2)⟩ (fun hHeld => ?_)
                              clear hK K
                              refine norm_ (a' := ?_) ?_ ?_
                              rotate_left
                              · show Act.put _ (some 10) _ = _
                                simp only [Act.put, List.setIfInBounds_toArray, List.set_cons_zero, List.set_cons_succ, i64_w, i32_w]
                                rfl
                              exact norm_ (by simp only [putAll, Act.put, List.setIfInBounds_toArray, List.set_cons_zero, List.set_cons_succ]) (hCont (v124, gb129) _ ⟨hHeld, (by (with_reducible repeat (first | apply Kd.R_alloc | apply Kd.R_drewN | apply Kd.R_drew)); exact HO125.out), (by (with_reducible repeat (first | apply Kd.R_alloc | apply Kd.R_drewN | apply Kd.R_drew)); exact HO_119002.out), (by (with_reducible repeat (first | refine blk_drewN ?_ _ | refine blk_drew ?_ | refine blk_alloc ?_ _)); exact BK117.out), (by (with_reducible repeat (first | refine blk_drewN ?_ _ | refine blk_drew ?_ | refine blk_alloc ?_ _)); exact BK118.out), (by (with_reducible repeat (first | refine blk_drewN ?_ _ | refine blk_drew ?_ | refine blk_alloc ?_ _)); exact BK129.out), GW129.out, GE129.out, NB117_129.out, NB129_117.out, NB118_129.out, NB129_118.out, (by repeat (first | (with_reducible first | exact HB.out | apply below_alloc | apply pw_below_drewN | apply below_drew1 | refine below_set ?_ GE117.out | refine below_set ?_ GE118.out | refine below_set ?_ GE129.out) | exact HB.out))⟩)
                            · skip
                              refine box_step ?hg (N := 10) ?hd (cs := #[.int .i64 0, .int .i64 0, .slice none 0 0, .int .i64 0, .bool false]) (t := 54) ?hr ?_; (case hd => rfl); (case hg => rfl); (case hr => first | (go_simp; done) | (go_simp; rfl))
                              intro gb129 hg w38 hbox hb
                              have n0_ := Aside0.mk (Kd.R_below (by (with_reducible repeat (first | apply Kd.R_alloc | apply Kd.R_drewN | apply Kd.R_drew)); exact HO_118002.out) hb)
                              have n1_ := Aside0.mk (Kd.R_below (by (with_reducible repeat (first | apply Kd.R_alloc | apply Kd.R_drewN | apply Kd.R_drew)); exact HO_119002.out) hb)
                              have n2_ := Aside0.mk (blk_below (g := gb117) (o := .cells #[.int .i64 x118000_1, .int .i64 x118001_1, .slice Ao36 x118002_1.length co36, .int .i64 x118003_1, .bool x118004_1] 54 (0, 0)) (by (with_reducible repeat (first | refine blk_drewN ?_ _ | refine blk_drew ?_ | refine blk_alloc ?_ _)); exact BK117.out) hb)
                              have n3_ := Aside0.mk (blk_below (g := gb118) (o := .cells #[.int .i64 x119000_1, .int .i64 x119001_1, u119002, .int .i64 x119003_1, .bool x119004_1] 80 (0, 0)) (by (with_reducible repeat (first | refine blk_drewN ?_ _ | refine blk_drew ?_ | refine blk_alloc ?_ _)); exact BK118.out) hb)
                              have n4_ := Aside0.mk (below_step (by repeat (first | (with_reducible first | exact HB.out | apply below_alloc | apply pw_below_drewN | apply below_drew1 | refine below_set ?_ GE117.out | refine below_set ?_ GE118.out) | exact HB.out)) hb)
                              have n5_ := Aside0.mk (hbox)
                              have n6_ := Aside0.mk ((by rw [hg]; exact (below_size (by repeat (first | (with_reducible first | exact HB.out | apply below_alloc | apply pw_below_drewN | apply below_drew1 | refine below_set ?_ GE117.out | refine below_set ?_ GE118.out) | exact HB.out))) : w.heap.size ≤ gb129))
                              have n7_ := Aside0.mk ((by rw [hg]; exact (below_size (by repeat (first | (with_reducible first | exact HB.out | apply below_alloc | apply pw_below_drewN | apply below_drew1 | refine below_set ?_ GE117.out | refine below_set ?_ GE118.out) | exact HB.out))) : w.heap.size ≤ gb129))
                              have n8_ := Aside0.mk ((by rw [hg]; exact Nat.ne_of_lt (blk_lt (g := gb117) (o := .cells #[.int .i64 x118000_1, .int .i64 x118001_1, .slice Ao36 x118002_1.length co36, .int .i64 x118003_1, .bool x118004_1] 54 (0, 0)) (by (with_reducible repeat (first | refine blk_drewN ?_ _ | refine blk_drew ?_ | refine blk_alloc ?_ _)); exact BK117.out)) : gb117 ≠ gb129))
                              have n9_ := Aside0.mk ((by rw [hg]; exact Nat.ne_of_gt (blk_lt (g := gb117) (o := .cells #[.int .i64 x118000_1, .int .i64 x118001_1, .slice Ao36 x118002_1.length co36, .int .i64 x118003_1, .bool x118004_1] 54 (0, 0)) (by (with_reducible repeat (first | refine blk_drewN ?_ _ | refine blk_drew ?_ | refine blk_alloc ?_ _)); exact BK117.out)) : gb129 ≠ gb117))
                              have n10_ := Aside0.mk ((by rw [hg]; exact Nat.ne_of_lt (blk_lt (g := gb118) (o := .cells #[.int .i64 x119000_1, .int .i64 x119001_1, u119002, .int .i64 x119003_1, .bool x119004_1] 80 (0, 0)) (by (with_reducible repeat (first | refine blk_drewN ?_ _ | refine blk_drew ?_ | refine blk_alloc ?_ _)); exact BK118.out)) : gb118 ≠ gb129))
                              have n11_ := Aside0.mk ((by rw [hg]; exact Nat.ne_of_gt (blk_lt (g := gb118) (o := .cells #[.int .i64 x119000_1, .int .i64 x119001_1, u119002, .int .i64 x119003_1, .bool x119004_1] 80 (0, 0)) (by (with_reducible repeat (first | refine blk_drewN ?_ _ | refine blk_drew ?_ | refine blk_alloc ?_ _)); exact BK118.out)) : gb129 ≠ gb118))
                              clear HO_118002
                              clear HO_119002
                              clear BK117
                              clear BK118
                              clear HB
                              have HO_118002 := n0_
                              have HO_119002 := n1_
                              have BK117 := n2_
                              have BK118 := n3_
                              have HB := n4_
                              have BK129 := n5_
                              have GW129 := n6_
                              have GE129 := n7_
                              have NB117_129 := n8_
                              have NB129_117 := n9_
                              have NB118_129 := n10_
                              have NB129_118 := n11_
                              clear n0_ n1_ n2_ n3_ n4_ n5_ n6_ n7_ n8_ n9_ n10_ n11_
                              clear hb hbox hg
                              refine hK.out _ _ ⟨(blk_cell BK117.out 0).trans rfl, (blk_cell BK117.out 1).trans rfl, (blk_cell BK117.out 2).trans rfl, (blk_cell BK117.out 3).trans rfl, (blk_cell BK117.out 4).trans rfl, ((HB.out.cell (World.block_lt_of_cell? w _ hw120_0)).trans hw120_0), ((HB.out.cell (World.block_lt_of_cell? w _ hw120_1)).trans hw120_1), ((HB.out.cell (World.block_lt_of_cell? w _ hw120_2)).trans hw120_2)⟩ (fun hHeld => ?_)
                              clear hK K
                              refine norm_ (a' := ?_) ?_ ?_
                              rotate_left
                              · show Act.put _ (some 10) _ = _
                                simp only [Act.put, List.setIfInBounds_toArray, List.set_cons_zero, List.set_cons_succ, i64_w, i32_w]
                                rfl
                              refine one_ (i := 5) (N := some 40) #[true, true, true, true, true, true, false, false, false, true, false, false] rfl rfl (one_of HT_.out (by kernel_rfl)) (by decide) (fun K hK => ?_)
                              refine goes_ Try.func36 (by kernel_rfl) rfl #[.agg #[.int .i64 x118000_1, .int .i64 x118001_1, .slice Ao36 x118002_1.length co36, .int .i64 x118003_1, .bool x118004_1], .agg #[.int .i64 ((rd_T57 l2 x9_1).f0), .slice A120_1 ((rd_T57 l2 x9_1).f1).length c120_1, .int .i64 ((rd_T57 l2 x9_1).f2)]] (by rfl) rfl rfl (by (try simp only [List.map_toArray, List.map_cons, List.map_nil]); first | done | rfl | (simp only [List.length_drop, List.length_take]; rfl)) ?_
                              with_reducible refine (revetmentlaw04_does.calls k1 x118000_1 x118001_1 (fun k_ => some k_ = (.slice Ao36 x118002_1.length co36 : Value).ownBlock) (.slice Ao36 x118002_1.length co36) x118002_1 x118003_1 x118004_1 ((rd_T57 l2 x9_1).f0) (fun k_ => k_ < w.heap.size) _ _ ((rd_T57 l2 x9_1).f1) ((rd_T57 l2 x9_1).f2) t121 t122 t123 t126 t127 t128 w _ ?side1 ?side2 ?side3 A21.out).mono ?_
                              (case side1 => repeat (first | (with_reducible first | exact HB.out | apply below_alloc | apply pw_below_drewN | apply below_drew1 | refine below_set ?_ GE117.out | refine below_set ?_ GE118.out | refine below_set ?_ GE129.out) | exact HB.out))
                              (case side2 => exact Kd.R_tight rfl HO_118002.out)
                              (case side3 => exact Kd.V_mono (Kd.V_mk HC120_1.out (Kd.F_below (Kd.C_F (Kd.heap_int .u8) HR120_1.out) (by repeat (first | (with_reducible first | exact HB.out | apply below_alloc | apply pw_below_drewN | apply below_drew1 | refine below_set ?_ GE117.out | refine below_set ?_ GE118.out | refine below_set ?_ GE129.out) | exact HB.out)))) (fun k_ hk_ => ⟨hk_, fun e_ => Nat.not_le.2 hk_ (Kd.R_base HO_118002.out k_ e_.symm)⟩))
                              rintro e w39 ⟨v124, rfl, ho0, hb, hkp⟩
                              refine ⟨_, rfl, ?_⟩
                              have n0_ := Aside0.mk (Kd.R_mono (ok' := fun k_ => True) (Kd.R_keptB ((Kd.R_apart' HO_119002.out (Kd.R_typed HO_118002.out) (by decide))) hkp (fun k_ hk_ hs_ => (hk_.2) hs_)) (fun k_ hk_ => trivial))
                              have n1_ := Aside0.mk (blk_kept (by (with_reducible repeat (first | refine blk_drewN ?_ _ | refine blk_drew ?_ | refine blk_alloc ?_ _)); exact BK117.out) hkp (fun hs_ => (fun e_ => (Kd.R_ne HO_118002.out BK117.out (by decide)) e_) hs_))
                              have n2_ := Aside0.mk (blk_kept (by (with_reducible repeat (first | refine blk_drewN ?_ _ | refine blk_drew ?_ | refine blk_alloc ?_ _)); exact BK118.out) hkp (fun hs_ => (fun e_ => (Kd.R_ne HO_118002.out BK118.out (by decide)) e_) hs_))
                              have n3_ := Aside0.mk (blk_kept (by (with_reducible repeat (first | refine blk_drewN ?_ _ | refine blk_drew ?_ | refine blk_alloc ?_ _)); exact BK129.out) hkp (fun hs_ => (fun e_ => (Kd.R_ne HO_118002.out BK129.out (by decide)) e_) hs_))
                              have n4_ := Aside0.mk (Kd.R_mono (ok' := fun k_ => True) ho0 (fun k_ hk_ => trivial))
                              have n5_ := Aside0.mk (hb)
                              clear HO_119002
                              clear BK117
                              clear BK118
                              clear BK129
                              clear HB
                              clear HO_118002
                              have HO_119002 := n0_
                              have BK117 := n1_
                              have BK118 := n2_
                              have BK129 := n3_
                              have HO125 := n4_
                              have HB := n5_
                              clear n0_ n1_ n2_ n3_ n4_ n5_
                              (try clear hb)
                              (try clear hkp)
                              (try clear ho0)
                              refine hK.out _ _ ⟨(blk_cell BK117.out 0).trans rfl, (blk_cell BK117.out 1).trans rfl, (blk_cell BK117.out 2).trans rfl, (blk_cell BK117.out 3).trans rfl, (blk_cell BK117.out 4).trans rfl, ((HB.out.cell (World.block_lt_of_cell? w _ hw120_0)).trans hw120_0), ((HB.out.cell (World.block_lt_of_cell? w _ hw120_1)).trans hw120_1), ((HB.out.cell (World.block_lt_of_cell? w _ hw120_2)).trans hw120_2)⟩ (fun hHeld => ?_)
                              clear hK K
                              refine norm_ (a' := ?_) ?_ ?_
                              rotate_left
                              · show Act.put _ (some 40) _ = _
                                simp only [Act.put, List.setIfInBounds_toArray, List.set_cons_zero, List.set_cons_succ, i64_w, i32_w]
                                rfl
                              refine pure_ (i := 6) (N := some 34) (v := ?_) (a' := ?_) #[true, true, true, true, true, true, true, false, false, true, false, false] rfl rfl (any_of HT_.out (by kernel_rfl)) (fun _ _ _ h => h) (Or.inl ⟨by rfl, ?_⟩) ?_ ?_
                              rotate_left
                              · intro w'
                                go_simp
                                with_reducible rfl
                              rotate_left
                              · simp only [Act.put, List.setIfInBounds_toArray, List.set_cons_zero, List.set_cons_succ, i64_w, i32_w]
                                rfl
                              refine pure_ (i := 7) (N := some 41) (v := ?_) (a' := ?_) #[true, true, true, true, true, true, true, true, false, true, false, false] rfl rfl (any_of HT_.out (by kernel_rfl)) (fun _ _ _ h => h) (Or.inl ⟨by rfl, ?_⟩) ?_ ?_
                              rotate_left
                              · intro w'
                                go_simp
                                with_reducible rfl
                              rotate_left
                              · simp only [Act.put, List.setIfInBounds_toArray, List.set_cons_zero, List.set_cons_succ, i64_w, i32_w]
                                rfl
                              refine pure_ (i := 8) (N := some 42) (v := ?_) (a' := ?_) #[true, true, true, true, true, true, true, true, true, true, false, false] rfl rfl (any_of HT_.out (by kernel_rfl)) (fun _ _ _ h => h) (Or.inl ⟨by rfl, ?_⟩) ?_ ?_
                              rotate_left
                              · intro w'
                                go_simp
                                with_reducible rfl
                              rotate_left
                              · simp only [Act.put, List.setIfInBounds_toArray, List.set_cons_zero, List.set_cons_succ, i64_w, i32_w]
                                rfl
                              exact norm_ (by simp only [putAll, Act.put, List.setIfInBounds_toArray, List.set_cons_zero, List.set_cons_succ]) (hCont (v124, gb129) _ ⟨hHeld, (by (with_reducible repeat (first | apply Kd.R_alloc | apply Kd.R_drewN | apply Kd.R_drew)); exact HO125.out), (by (with_reducible repeat (first | apply Kd.R_alloc | apply Kd.R_drewN | apply Kd.R_drew)); exact HO_119002.out), (by (with_reducible repeat (first | refine blk_drewN ?_ _ | refine blk_drew ?_ | refine blk_alloc ?_ _)); exact BK117.out), (by (with_reducible repeat (first | refine blk_drewN ?_ _ | refine blk_drew ?_ | refine blk_alloc ?_ _)); exact BK118.out), (by (with_reducible repeat (first | refine blk_drewN ?_ _ | refine blk_drew ?_ | refine blk_alloc ?_ _)); exact BK129.out), GW129.out, GE129.out, NB117_129.out, NB129_117.out, NB118_129.out, NB129_118.out, (by repeat (first | (with_reducible first | exact HB.out | apply below_alloc | apply pw_below_drewN | apply below_drew1 | refine below_set ?_ GE117.out | refine below_set ?_ GE118.out | refine below_set ?_ GE129.out) | exact HB.out))⟩)
                          rintro ⟨v124, gb129⟩ w40 ⟨hS_, h0_, h1_, h2_, h3_, h4_, h5_, h6_, h7_, h8_, h9_, h10_, h11_⟩
                          have n0_ : Aside0 (Kd.R (Kd.int .u8) 5 w40 w.heap.size (fun _ => True) v124 t123) := ⟨h0_⟩
                          have n1_ : Aside0 (Kd.R Kd.string 9 w40 w.heap.size (fun _ => True) u119002 x119002_1) := ⟨h1_⟩
                          have n2_ : Aside0 (w40.heap[gb117]? = some (.cells #[.int .i64 x118000_1, .int .i64 x118001_1, .slice Ao36 x118002_1.length co36, .int .i64 x118003_1, .bool x118004_1] 54 (0, 0))) := ⟨h2_⟩
                          have n3_ : Aside0 (w40.heap[gb118]? = some (.cells #[.int .i64 x119000_1, .int .i64 x119001_1, u119002, .int .i64 x119003_1, .bool x119004_1] 80 (0, 0))) := ⟨h3_⟩
                          have n4_ : Aside0 (w40.heap[gb129]? = some (.cells #[.int .i64 0, .int .i64 0, .slice none 0 0, .int .i64 0, .bool false] 54 (0, 0))) := ⟨h4_⟩
                          have n5_ : Aside0 (w.heap.size ≤ gb129) := ⟨h5_⟩
                          have n6_ : Aside0 (w.heap.size ≤ gb129) := ⟨h6_⟩
                          have n7_ : Aside0 (gb117 ≠ gb129) := ⟨h7_⟩
                          have n8_ : Aside0 (gb129 ≠ gb117) := ⟨h8_⟩
                          have n9_ : Aside0 (gb118 ≠ gb129) := ⟨h9_⟩
                          have n10_ : Aside0 (gb129 ≠ gb118) := ⟨h10_⟩
                          have n11_ : Aside0 (Below w.heap.size w w40) := ⟨h11_⟩
                          clear HO_118002
                          clear HO_119002
                          clear BK117
                          clear BK118
                          clear HB
                          clear h0_ h1_ h2_ h3_ h4_ h5_ h6_ h7_ h8_ h9_ h10_ h11_
                          have HO125 := n0_
                          have HO_119002 := n1_
                          have BK117 := n2_
                          have BK118 := n3_
                          have BK129 := n4_
                          have GW129 := n5_
                          have GE129 := n6_
                          have NB117_129 := n7_
                          have NB129_117 := n8_
                          have NB118_129 := n9_
                          have NB129_118 := n10_
                          have HB := n11_
                          clear n0_ n1_ n2_ n3_ n4_ n5_ n6_ n7_ n8_ n9_ n10_ n11_
                          have hHeld : w40.cell? ⟨gb117, 0, none⟩ = some (.int .i64 x118000_1) ∧ w40.cell? ⟨gb117, 1, none⟩ = some (.int .i64 x118001_1) ∧ w40.cell? ⟨gb117, 2, none⟩ = some (.slice Ao36 x118002_1.length co36) ∧ w40.cell? ⟨gb117, 3, none⟩ = some (.int .i64 x118003_1) ∧ w40.cell? ⟨gb117, 4, none⟩ = some (.bool x118004_1) ∧ w40.cell? (ad120.add ((x9_1).toNat * 3)) = some (.int .i64 ((rd_T57 l2 x9_1).f0)) ∧ w40.cell? ⟨(ad120.add ((x9_1).toNat * 3)).block, (ad120.add ((x9_1).toNat * 3)).off + 1, none⟩ = some (.slice A120_1 ((rd_T57 l2 x9_1).f1).length c120_1) ∧ w40.cell? ⟨(ad120.add ((x9_1).toNat * 3)).block, (ad120.add ((x9_1).toNat * 3)).off + 2, none⟩ = some (.int .i64 ((rd_T57 l2 x9_1).f2)) := hS_
                          obtain ⟨Ao43, co43, eo43⟩ := Kd.R_slice HO125.out
                          (first | subst eo43 | (injection eo43 with f1_ f2_ f3_; have f4_ := f1_.symm; have f5_ := f3_.symm; clear f1_ f2_ f3_; subst f4_; subst f5_))
                          refine norm_ (a' := ?_) ?_ ?_
                          rotate_left
                          · simp only [putAll, Act.put, List.setIfInBounds_toArray, List.set_cons_zero, List.set_cons_succ]
                            rfl
                          refine one_ (i := 10) (N := none) #[true, true, true, true, true, true, true, true, true, true, true, false] rfl rfl (one_of HT_.out (by kernel_rfl)) (by decide) (fun K hK => ?_)
                          have hs41 : w40.cell? ⟨gb129, 0, none⟩ = some (.int .i64 0) := (blk_cell BK129.out 0).trans rfl
                          have hfs41 := blk_frozen BK129.out 0
                          have hns41_0 := NB117_129.out
                          have hns41_1 := NB118_129.out
                          have hms41_0 := NB129_117.out
                          have hms41_1 := NB129_118.out
                          have hs42 : w40.cell? ⟨gb129, 1, none⟩ = some (.int .i64 0) := (blk_cell BK129.out 1).trans rfl
                          have hfs42 := blk_frozen BK129.out 1
                          have hns42_0 := NB117_129.out
                          have hns42_1 := NB118_129.out
                          have hms42_0 := NB129_117.out
                          have hms42_1 := NB129_118.out
                          have hs44 : w40.cell? ⟨gb129, 2, none⟩ = some (.slice none 0 0) := (blk_cell BK129.out 2).trans rfl
                          have hfs44 := blk_frozen BK129.out 2
                          have hns44_0 := NB117_129.out
                          have hns44_1 := NB118_129.out
                          have hms44_0 := NB129_117.out
                          have hms44_1 := NB129_118.out
                          have hs45 : w40.cell? ⟨gb129, 3, none⟩ = some (.int .i64 0) := (blk_cell BK129.out 3).trans rfl
                          have hfs45 := blk_frozen BK129.out 3
                          have hns45_0 := NB117_129.out
                          have hns45_1 := NB118_129.out
                          have hms45_0 := NB129_117.out
                          have hms45_1 := NB129_118.out
                          have hs46 : w40.cell? ⟨gb129, 4, none⟩ = some (.bool false) := (blk_cell BK129.out 4).trans rfl
                          have hfs46 := blk_frozen BK129.out 4
                          have hns46_0 := NB117_129.out
                          have hns46_1 := NB118_129.out
                          have hms46_0 := NB129_117.out
                          have hms46_1 := NB129_118.out
                          refine skip_ (w1 := ?_) (by rfl) rfl ?_ ?_
                          rotate_left
                          · go_simp
                            rfl
                          refine hK.out _ _ ⟨((cell_far (p := ⟨gb129, _, none⟩) NB117_129.out _).trans (((cell_far (p := ⟨gb129, _, none⟩) NB117_129.out _).trans (((cell_far (p := ⟨gb129, _, none⟩) NB117_129.out _).trans (((cell_far (p := ⟨gb129, _, none⟩) NB117_129.out _).trans (((cell_far (p := ⟨gb129, _, none⟩) NB117_129.out _).trans (hHeld.1)))))))))), ((cell_far (p := ⟨gb129, _, none⟩) NB117_129.out _).trans (((cell_far (p := ⟨gb129, _, none⟩) NB117_129.out _).trans (((cell_far (p := ⟨gb129, _, none⟩) NB117_129.out _).trans (((cell_far (p := ⟨gb129, _, none⟩) NB117_129.out _).trans (((cell_far (p := ⟨gb129, _, none⟩) NB117_129.out _).trans (hHeld.2.1)))))))))), ((cell_far (p := ⟨gb129, _, none⟩) NB117_129.out _).trans (((cell_far (p := ⟨gb129, _, none⟩) NB117_129.out _).trans (((cell_far (p := ⟨gb129, _, none⟩) NB117_129.out _).trans (((cell_far (p := ⟨gb129, _, none⟩) NB117_129.out _).trans (((cell_far (p := ⟨gb129, _, none⟩) NB117_129.out _).trans (hHeld.2.2.1)))))))))), ((cell_far (p := ⟨gb129, _, none⟩) NB117_129.out _).trans (((cell_far (p := ⟨gb129, _, none⟩) NB117_129.out _).trans (((cell_far (p := ⟨gb129, _, none⟩) NB117_129.out _).trans (((cell_far (p := ⟨gb129, _, none⟩) NB117_129.out _).trans (((cell_far (p := ⟨gb129, _, none⟩) NB117_129.out _).trans (hHeld.2.2.2.1)))))))))), ((cell_far (p := ⟨gb129, _, none⟩) NB117_129.out _).trans (((cell_far (p := ⟨gb129, _, none⟩) NB117_129.out _).trans (((cell_far (p := ⟨gb129, _, none⟩) NB117_129.out _).trans (((cell_far (p := ⟨gb129, _, none⟩) NB117_129.out _).trans (((cell_far (p := ⟨gb129, _, none⟩) NB117_129.out _).trans (hHeld.2.2.2.2.1)))))))))), ((cell_far (p := ⟨gb129, _, none⟩) (by first | exact Nat.ne_of_lt (Nat.lt_of_lt_of_le (by have := World.block_lt_of_cell? _ _ hw120_0; first | rwa [add_block] at this | exact this) GW129.out) | (rw [add_block]; exact Nat.ne_of_lt (Nat.lt_of_lt_of_le (by have := World.block_lt_of_cell? _ _ hw120_0; first | rwa [add_block] at this | exact this) GW129.out)) | (show (Addr.add _ _).block ≠ _; rw [add_block]; exact Nat.ne_of_lt (Nat.lt_of_lt_of_le (by have := World.block_lt_of_cell? _ _ hw120_0; first | rwa [add_block] at this | exact this) GW129.out)) | (dsimp only; exact Nat.ne_of_lt (Nat.lt_of_lt_of_le (by have := World.block_lt_of_cell? _ _ hw120_0; first | rwa [add_block] at this | exact this) GW129.out))) _).trans (((cell_far (p := ⟨gb129, _, none⟩) (by first | exact Nat.ne_of_lt (Nat.lt_of_lt_of_le (by have := World.block_lt_of_cell? _ _ hw120_0; first | rwa [add_block] at this | exact this) GW129.out) | (rw [add_block]; exact Nat.ne_of_lt (Nat.lt_of_lt_of_le (by have := World.block_lt_of_cell? _ _ hw120_0; first | rwa [add_block] at this | exact this) GW129.out)) | (show (Addr.add _ _).block ≠ _; rw [add_block]; exact Nat.ne_of_lt (Nat.lt_of_lt_of_le (by have := World.block_lt_of_cell? _ _ hw120_0; first | rwa [add_block] at this | exact this) GW129.out)) | (dsimp only; exact Nat.ne_of_lt (Nat.lt_of_lt_of_le (by have := World.block_lt_of_cell? _ _ hw120_0; first | rwa [add_block] at this | exact this) GW129.out))) _).trans (((cell_far (p := ⟨gb129, _, none⟩) (by first | exact Nat.ne_of_lt (Nat.lt_of_lt_of_le (by have := World.block_lt_of_cell? _ _ hw120_0; first | rwa [add_block] at this | exact this) GW129.out) | (rw [add_block]; exact Nat.ne_of_lt (Nat.lt_of_lt_of_le (by have := World.block_lt_of_cell? _ _ hw120_0; first | rwa [add_block] at this | exact this) GW129.out)) | (show (Addr.add _ _).block ≠ _; rw [add_block]; exact Nat.ne_of_lt (Nat.lt_of_lt_of_le (by have := World.block_lt_of_cell? _ _ hw120_0; first | rwa [add_block] at this | exact this) GW129.out)) | (dsimp only; exact Nat.ne_of_lt (Nat.lt_of_lt_of_le (by have := World.block_lt_of_cell? _ _ hw120_0; first | rwa [add_block] at this | exact this) GW129.out))) _).trans (((cell_far (p := ⟨gb129, _, none⟩) (by first | exact Nat.ne_of_lt (Nat.lt_of_lt_of_le (by have := World.block_lt_of_cell? _ _ hw120_0; first | rwa [add_block] at this | exact this) GW129.out) | (rw [add_block]; exact Nat.ne_of_lt (Nat.lt_of_lt_of_le (by have := World.block_lt_of_cell? _ _ hw120_0; first | rwa [add_block] at this | exact this) GW129.out)) | (show (Addr.add _ _).block ≠ _; rw [add_block]; exact Nat.ne_of_lt (Nat.lt_of_lt_of_le (by have := World.block_lt_of_cell? _ _ hw120_0; first | rwa [add_block] at this | exact this) GW129.out)) | (dsimp only; exact Nat.ne_of_lt (Nat.lt_of_lt_of_le (by have := World.block_lt_of_cell? _ _ hw120_0; first | rwa [add_block] at this | exact this) GW129.out))) _).trans (((cell_far (p := ⟨gb129, _, none⟩) (by first | exact Nat.ne_of_lt (Nat.lt_of_lt_of_le (by have := World.block_lt_of_cell? _ _ hw120_0; first | rwa [add_block] at this | exact this) GW129.out) | (rw [add_block]; exact Nat.ne_of_lt (Nat.lt_of_lt_of_le (by have := World.block_lt_of_cell? _ _ hw120_0; first | rwa [add_block] at this | exact this) GW129.out)) | (show (Addr.add _ _).block ≠ _; rw [add_block]; exact Nat.ne_of_lt (Nat.lt_of_lt_of_le (by have := World.block_lt_of_cell? _ _ hw120_0; first | rwa [add_block] at this | exact this) GW129.out)) | (dsimp only; exact Nat.ne_of_lt (Nat.lt_of_lt_of_le (by have := World.block_lt_of_cell? _ _ hw120_0; first | rwa [add_block] at this | exact this) GW129.out))) _).trans (hHeld.2.2.2.2.2.1)))))))))), ((cell_far (p := ⟨gb129, _, none⟩) (by first | exact Nat.ne_of_lt (Nat.lt_of_lt_of_le (by have := World.block_lt_of_cell? _ _ hw120_1; first | rwa [add_block] at this | exact this) GW129.out) | (rw [add_block]; exact Nat.ne_of_lt (Nat.lt_of_lt_of_le (by have := World.block_lt_of_cell? _ _ hw120_1; first | rwa [add_block] at this | exact this) GW129.out)) | (show (Addr.add _ _).block ≠ _; rw [add_block]; exact Nat.ne_of_lt (Nat.lt_of_lt_of_le (by have := World.block_lt_of_cell? _ _ hw120_1; first | rwa [add_block] at this | exact this) GW129.out)) | (dsimp only; exact Nat.ne_of_lt (Nat.lt_of_lt_of_le (by have := World.block_lt_of_cell? _ _ hw120_1; first | rwa [add_block] at this | exact this) GW129.out))) _).trans (((cell_far (p := ⟨gb129, _, none⟩) (by first | exact Nat.ne_of_lt (Nat.lt_of_lt_of_le (by have := World.block_lt_of_cell? _ _ hw120_1; first | rwa [add_block] at this | exact this) GW129.out) | (rw [add_block]; exact Nat.ne_of_lt (Nat.lt_of_lt_of_le (by have := World.block_lt_of_cell? _ _ hw120_1; first | rwa [add_block] at this | exact this) GW129.out)) | (show (Addr.add _ _).block ≠ _; rw [add_block]; exact Nat.ne_of_lt (Nat.lt_of_lt_of_le (by have := World.block_lt_of_cell? _ _ hw120_1; first | rwa [add_block] at this | exact this) GW129.out)) | (dsimp only; exact Nat.ne_of_lt (Nat.lt_of_lt_of_le (by have := World.block_lt_of_cell? _ _ hw120_1; first | rwa [add_block] at this | exact this) GW129.out))) _).trans (((cell_far (p := ⟨gb129, _, none⟩) (by first | exact Nat.ne_of_lt (Nat.lt_of_lt_of_le (by have := World.block_lt_of_cell? _ _ hw120_1; first | rwa [add_block] at this | exact this) GW129.out) | (rw [add_block]; exact Nat.ne_of_lt (Nat.lt_of_lt_of_le (by have := World.block_lt_of_cell? _ _ hw120_1; first | rwa [add_block] at this | exact this) GW129.out)) | (show (Addr.add _ _).block ≠ _; rw [add_block]; exact Nat.ne_of_lt (Nat.lt_of_lt_of_le (by have := World.block_lt_of_cell? _ _ hw120_1; first | rwa [add_block] at this | exact this) GW129.out)) | (dsimp only; exact Nat.ne_of_lt (Nat.lt_of_lt_of_le (by have := World.block_lt_of_cell? _ _ hw120_1; first | rwa [add_block] at this | exact this) GW129.out))) _).trans (((cell_far (p := ⟨gb129, _, none⟩) (by first | exact Nat.ne_of_lt (Nat.lt_of_lt_of_le (by have := World.block_lt_of_cell? _ _ hw120_1; first | rwa [add_block] at this | exact this) GW129.out) | (rw [add_block]; exact Nat.ne_of_lt (Nat.lt_of_lt_of_le (by have := World.block_lt_of_cell? _ _ hw120_1; first | rwa [add_block] at this | exact this) GW129.out)) | (show (Addr.add _ _).block ≠ _; rw [add_block]; exact Nat.ne_of_lt (Nat.lt_of_lt_of_le (by have := World.block_lt_of_cell? _ _ hw120_1; first | rwa [add_block] at this | exact this) GW129.out)) | (dsimp only; exact Nat.ne_of_lt (Nat.lt_of_lt_of_le (by have := World.block_lt_of_cell? _ _ hw120_1; first | rwa [add_block] at this | exact this) GW129.out))) _).trans (((cell_far (p := ⟨gb129, _, none⟩) (by first | exact Nat.ne_of_lt (Nat.lt_of_lt_of_le (by have := World.block_lt_of_cell? _ _ hw120_1; first | rwa [add_block] at this | exact this) GW129.out) | (rw [add_block]; exact Nat.ne_of_lt (Nat.lt_of_lt_of_le (by have := World.block_lt_of_cell? _ _ hw120_1; first | rwa [add_block] at this | exact this) GW129.out)) | (show (Addr.add _ _).block ≠ _; rw [add_block]; exact Nat.ne_of_lt (Nat.lt_of_lt_of_le (by have := World.block_lt_of_cell? _ _ hw120_1; first | rwa [add_block] at this | exact this) GW129.out)) | (dsimp only; exact Nat.ne_of_lt (Nat.lt_of_lt_of_le (by have := World.block_lt_of_cell? _ _ hw120_1; first | rwa [add_block] at this | exact this) GW129.out))) _).trans (hHeld.2.2.2.2.2.2.1)))))))))), ((cell_far (p := ⟨gb129, _, none⟩) (by first | exact Nat.ne_of_lt (Nat.lt_of_lt_of_le (by have := World.block_lt_of_cell? _ _ hw120_2; first | rwa [add_block] at this | exact this) GW129.out) | (rw [add_block]; exact Nat.ne_of_lt (Nat.lt_of_lt_of_le (by have := World.block_lt_of_cell? _ _ hw120_2; first | rwa [add_block] at this | exact this) GW129.out)) | (show (Addr.add _ _).block ≠ _; rw [add_block]; exact Nat.ne_of_lt (Nat.lt_of_lt_of_le (by have := World.block_lt_of_cell? _ _ hw120_2; first | rwa [add_block] at this | exact this) GW129.out)) | (dsimp only; exact Nat.ne_of_lt (Nat.lt_of_lt_of_le (by have := World.block_lt_of_cell? _ _ hw120_2; first | rwa [add_block] at this | exact this) GW129.out))) _).trans (((cell_far (p := ⟨gb129, _, none⟩) (by first | exact Nat.ne_of_lt (Nat.lt_of_lt_of_le (by have := World.block_lt_of_cell? _ _ hw120_2; first | rwa [add_block] at this | exact this) GW129.out) | (rw [add_block]; exact Nat.ne_of_lt (Nat.lt_of_lt_of_le (by have := World.block_lt_of_cell? _ _ hw120_2; first | rwa [add_block] at this | exact this) GW129.out)) | (show (Addr.add _ _).block ≠ _; rw [add_block]; exact Nat.ne_of_lt (Nat.lt_of_lt_of_le (by have := World.block_lt_of_cell? _ _ hw120_2; first | rwa [add_block] at this | exact this) GW129.out)) | (dsimp only; exact Nat.ne_of_lt (Nat.lt_of_lt_of_le (by have := World.block_lt_of_cell? _ _ hw120_2; first | rwa [add_block] at this | exact this) GW129.out))) _).trans (((cell_far (p := ⟨gb129, _, none⟩) (by first | exact Nat.ne_of_lt (Nat.lt_of_lt_of_le (by have := World.block_lt_of_cell? _ _ hw120_2; first | rwa [add_block] at this | exact this) GW129.out) | (rw [add_block]; exact Nat.ne_of_lt (Nat.lt_of_lt_of_le (by have := World.block_lt_of_cell? _ _ hw120_2; first | rwa [add_block] at this | exact this) GW129.out)) | (show (Addr.add _ _).block ≠ _; rw [add_block]; exact Nat.ne_of_lt (Nat.lt_of_lt_of_le (by have := World.block_lt_of_cell? _ _ hw120_2; first | rwa [add_block] at this | exact this) GW129.out)) | (dsimp only; exact Nat.ne_of_lt (Nat.lt_of_lt_of_le (by have := World.block_lt_of_cell? _ _ hw120_2; first | rwa [add_block] at this | exact this) GW129.out))) _).trans (((cell_far (p := ⟨gb129, _, none⟩) (by first | exact Nat.ne_of_lt (Nat.lt_of_lt_of_le (by have := World.block_lt_of_cell? _ _ hw120_2; first | rwa [add_block] at this | exact this) GW129.out) | (rw [add_block]; exact Nat.ne_of_lt (Nat.lt_of_lt_of_le (by have := World.block_lt_of_cell? _ _ hw120_2; first | rwa [add_block] at this | exact this) GW129.out)) | (show (Addr.add _ _).block ≠ _; rw [add_block]; exact Nat.ne_of_lt (Nat.lt_of_lt_of_le (by have := World.block_lt_of_cell? _ _ hw120_2; first | rwa [add_block] at this | exact this) GW129.out)) | (dsimp only; exact Nat.ne_of_lt (Nat.lt_of_lt_of_le (by have := World.block_lt_of_cell? _ _ hw120_2; first | rwa [add_block] at this | exact this) GW129.out))) _).trans (((cell_far (p := ⟨gb129, _, none⟩) (by first | exact Nat.ne_of_lt (Nat.lt_of_lt_of_le (by have := World.block_lt_of_cell? _ _ hw120_2; first | rwa [add_block] at this | exact this) GW129.out) | (rw [add_block]; exact Nat.ne_of_lt (Nat.lt_of_lt_of_le (by have := World.block_lt_of_cell? _ _ hw120_2; first | rwa [add_block] at this | exact this) GW129.out)) | (show (Addr.add _ _).block ≠ _; rw [add_block]; exact Nat.ne_of_lt (Nat.lt_of_lt_of_le (by have := World.block_lt_of_cell? _ _ hw120_2; first | rwa [add_block] at this | exact this) GW129.out)) | (dsimp only; exact Nat.ne_of_lt (Nat.lt_of_lt_of_le (by have := World.block_lt_of_cell? _ _ hw120_2; first | rwa [add_block] at this | exact this) GW129.out))) _).trans (hHeld.2.2.2.2.2.2.2))))))))))⟩ (fun hHeld => ?_)
                          clear hK K
                          refine pure_ (i := 11) (N := some 11) (v := ?_) (a' := ?_) #[true, true, true, true, true, true, true, true, true, true, true, true] rfl rfl (any_of HT_.out (by kernel_rfl)) (fun _ _ _ h => h) (Or.inl ⟨by rfl, ?_⟩) ?_ ?_
                          rotate_left
                          · intro w'
                            go_simp
                            with_reducible rfl
                          rotate_left
                          · simp only [Act.put, List.setIfInBounds_toArray, List.set_cons_zero, List.set_cons_succ, i64_w, i32_w]
                            rfl
                          refine done_ (done_of HT_.out (by kernel_rfl)) ?_
                          obtain ⟨Ao47, co47, eo47⟩ := Kd.R_slice HO_119002.out
                          subst eo47
                          try go_wp2
                          have n0_ : Aside0 (Kd.R Kd.string 9 (((((w40.setCell ⟨gb129, 0, none⟩ (.int .i64 t121)).setCell ⟨gb129, 1, none⟩ (.int .i64 t122)).setCell ⟨gb129, 2, none⟩ (.slice Ao43 t123.length co43)).setCell ⟨gb129, 3, none⟩ (.int .i64 t126)).setCell ⟨gb129, 4, none⟩ (.bool t127)) w.heap.size (fun _ => True) (.slice Ao47 x119002_1.length co47) x119002_1) := ⟨by (with_reducible repeat (first | apply Kd.R_alloc | apply Kd.R_drewN | apply Kd.R_drew)); exact Kd.R_mono (Kd.R_far (p := ⟨gb129, 4, none⟩) (Kd.R_far (p := ⟨gb129, 3, none⟩) (Kd.R_far (p := ⟨gb129, 2, none⟩) (Kd.R_far (p := ⟨gb129, 1, none⟩) (Kd.R_far (p := ⟨gb129, 0, none⟩) (Kd.R_types HO_119002.out BK129.out (by decide)) (fun _ hk => hk.2) (.int .i64 t121)) (fun _ hk => hk.2) (.int .i64 t122)) (fun _ hk => hk.2) (.slice Ao43 t123.length co43)) (fun _ hk => hk.2) (.int .i64 t126)) (fun _ hk => hk.2) (.bool t127)) (fun _ hk => trivial)⟩
                          have n1_ : Aside0 (Kd.R (Kd.int .u8) 5 (((((w40.setCell ⟨gb129, 0, none⟩ (.int .i64 t121)).setCell ⟨gb129, 1, none⟩ (.int .i64 t122)).setCell ⟨gb129, 2, none⟩ (.slice Ao43 t123.length co43)).setCell ⟨gb129, 3, none⟩ (.int .i64 t126)).setCell ⟨gb129, 4, none⟩ (.bool t127)) w.heap.size (fun _ => True) (.slice Ao43 t123.length co43) t123) := ⟨by (with_reducible repeat (first | apply Kd.R_alloc | apply Kd.R_drewN | apply Kd.R_drew)); exact Kd.R_mono (Kd.R_far (p := ⟨gb129, 4, none⟩) (Kd.R_far (p := ⟨gb129, 3, none⟩) (Kd.R_far (p := ⟨gb129, 2, none⟩) (Kd.R_far (p := ⟨gb129, 1, none⟩) (Kd.R_far (p := ⟨gb129, 0, none⟩) (Kd.R_types HO125.out BK129.out (by decide)) (fun _ hk => hk.2) (.int .i64 t121)) (fun _ hk => hk.2) (.int .i64 t122)) (fun _ hk => hk.2) (.slice Ao43 t123.length co43)) (fun _ hk => hk.2) (.int .i64 t126)) (fun _ hk => hk.2) (.bool t127)) (fun _ hk => trivial)⟩
                          have n2_ : Aside0 ((((((w40.setCell ⟨gb129, 0, none⟩ (.int .i64 t121)).setCell ⟨gb129, 1, none⟩ (.int .i64 t122)).setCell ⟨gb129, 2, none⟩ (.slice Ao43 t123.length co43)).setCell ⟨gb129, 3, none⟩ (.int .i64 t126)).setCell ⟨gb129, 4, none⟩ (.bool t127)).heap[gb117]? = some (.cells #[.int .i64 x118000_1, .int .i64 x118001_1, .slice Ao36 x118002_1.length co36, .int .i64 x118003_1, .bool x118004_1] 54 (0, 0))) := ⟨by (with_reducible repeat (first | refine blk_drewN ?_ _ | refine blk_drew ?_ | refine blk_alloc ?_ _)); refine blk_far ?_ NB117_129.out _; (with_reducible repeat (first | refine blk_drewN ?_ _ | refine blk_drew ?_ | refine blk_alloc ?_ _)); refine blk_far ?_ NB117_129.out _; (with_reducible repeat (first | refine blk_drewN ?_ _ | refine blk_drew ?_ | refine blk_alloc ?_ _)); refine blk_far ?_ NB117_129.out _; (with_reducible repeat (first | refine blk_drewN ?_ _ | refine blk_drew ?_ | refine blk_alloc ?_ _)); refine blk_far ?_ NB117_129.out _; (with_reducible repeat (first | refine blk_drewN ?_ _ | refine blk_drew ?_ | refine blk_alloc ?_ _)); refine blk_far ?_ NB117_129.out _; (with_reducible repeat (first | refine blk_drewN ?_ _ | refine blk_drew ?_ | refine blk_alloc ?_ _)); exact BK117.out⟩
                          have n3_ : Aside0 ((((((w40.setCell ⟨gb129, 0, none⟩ (.int .i64 t121)).setCell ⟨gb129, 1, none⟩ (.int .i64 t122)).setCell ⟨gb129, 2, none⟩ (.slice Ao43 t123.length co43)).setCell ⟨gb129, 3, none⟩ (.int .i64 t126)).setCell ⟨gb129, 4, none⟩ (.bool t127)).heap[gb118]? = some (.cells #[.int .i64 x119000_1, .int .i64 x119001_1, .slice Ao47 x119002_1.length co47, .int .i64 x119003_1, .bool x119004_1] 80 (0, 0))) := ⟨by (with_reducible repeat (first | refine blk_drewN ?_ _ | refine blk_drew ?_ | refine blk_alloc ?_ _)); refine blk_far ?_ NB118_129.out _; (with_reducible repeat (first | refine blk_drewN ?_ _ | refine blk_drew ?_ | refine blk_alloc ?_ _)); refine blk_far ?_ NB118_129.out _; (with_reducible repeat (first | refine blk_drewN ?_ _ | refine blk_drew ?_ | refine blk_alloc ?_ _)); refine blk_far ?_ NB118_129.out _; (with_reducible repeat (first | refine blk_drewN ?_ _ | refine blk_drew ?_ | refine blk_alloc ?_ _)); refine blk_far ?_ NB118_129.out _; (with_reducible repeat (first | refine blk_drewN ?_ _ | refine blk_drew ?_ | refine blk_alloc ?_ _)); refine blk_far ?_ NB118_129.out _; (with_reducible repeat (first | refine blk_drewN ?_ _ | refine blk_drew ?_ | refine blk_alloc ?_ _)); exact BK118.out⟩
                          have n4_ : Aside0 ((((((w40.setCell ⟨gb129, 0, none⟩ (.int .i64 t121)).setCell ⟨gb129, 1, none⟩ (.int .i64 t122)).setCell ⟨gb129, 2, none⟩ (.slice Ao43 t123.length co43)).setCell ⟨gb129, 3, none⟩ (.int .i64 t126)).setCell ⟨gb129, 4, none⟩ (.bool t127)).heap[gb129]? = some (.cells #[.int .i64 t121, .int .i64 t122, .slice Ao43 t123.length co43, .int .i64 t126, .bool t127] 54 (0, 0))) := ⟨by (with_reducible repeat (first | refine blk_drewN ?_ _ | refine blk_drew ?_ | refine blk_alloc ?_ _)); refine blk_put (cs := #[.int .i64 t121, .int .i64 t122, .slice Ao43 t123.length co43, .int .i64 t126, .bool false]) ?_ 4 _ rfl; (with_reducible repeat (first | refine blk_drewN ?_ _ | refine blk_drew ?_ | refine blk_alloc ?_ _)); refine blk_put (cs := #[.int .i64 t121, .int .i64 t122, .slice Ao43 t123.length co43, .int .i64 0, .bool false]) ?_ 3 _ rfl; (with_reducible repeat (first | refine blk_drewN ?_ _ | refine blk_drew ?_ | refine blk_alloc ?_ _)); refine blk_put (cs := #[.int .i64 t121, .int .i64 t122, .slice none 0 0, .int .i64 0, .bool false]) ?_ 2 _ rfl; (with_reducible repeat (first | refine blk_drewN ?_ _ | refine blk_drew ?_ | refine blk_alloc ?_ _)); refine blk_put (cs := #[.int .i64 t121, .int .i64 0, .slice none 0 0, .int .i64 0, .bool false]) ?_ 1 _ rfl; (with_reducible repeat (first | refine blk_drewN ?_ _ | refine blk_drew ?_ | refine blk_alloc ?_ _)); refine blk_put (cs := #[.int .i64 0, .int .i64 0, .slice none 0 0, .int .i64 0, .bool false]) ?_ 0 _ rfl; (with_reducible repeat (first | refine blk_drewN ?_ _ | refine blk_drew ?_ | refine blk_alloc ?_ _)); exact BK129.out⟩
                          have n5_ : Aside0 (Below w.heap.size w (((((w40.setCell ⟨gb129, 0, none⟩ (.int .i64 t121)).setCell ⟨gb129, 1, none⟩ (.int .i64 t122)).setCell ⟨gb129, 2, none⟩ (.slice Ao43 t123.length co43)).setCell ⟨gb129, 3, none⟩ (.int .i64 t126)).setCell ⟨gb129, 4, none⟩ (.bool t127))) := ⟨by repeat (first | (with_reducible first | exact HB.out | apply below_alloc | apply pw_below_drewN | apply below_drew1 | refine below_set ?_ GE117.out | refine below_set ?_ GE118.out | refine below_set ?_ GE129.out) | exact HB.out)⟩
                          (try clear HO_119002)
                          (try clear HO125)
                          (try clear BK117)
                          (try clear BK118)
                          (try clear BK129)
                          (try clear HB)
                          generalize (((((w40.setCell ⟨gb129, 0, none⟩ (.int .i64 t121)).setCell ⟨gb129, 1, none⟩ (.int .i64 t122)).setCell ⟨gb129, 2, none⟩ (.slice Ao43 t123.length co43)).setCell ⟨gb129, 3, none⟩ (.int .i64 t126)).setCell ⟨gb129, 4, none⟩ (.bool t127)) = w48 at n0_ n1_ n2_ n3_ n4_ n5_ ⊢
                          have HO_119002 := n0_
                          have HO125 := n1_
                          have BK117 := n2_
                          have BK118 := n3_
                          have BK129 := n4_
                          have HB := n5_
                          clear n0_ n1_ n2_ n3_ n4_ n5_
                          have n0_ := Aside0.mk (Kd.R_drew HO_119002.out)
                          have n1_ := Aside0.mk (Kd.R_drew HO125.out)
                          have n2_ := Aside0.mk (blk_drew BK117.out)
                          have n3_ := Aside0.mk (blk_drew BK118.out)
                          have n4_ := Aside0.mk (blk_drew BK129.out)
                          have n5_ := Aside0.mk (below_drew1 HB.out)
                          clear HO_119002
                          clear HO125
                          clear BK117
                          clear BK118
                          clear BK129
                          clear HB
                          have HO_119002 := n0_
                          have HO125 := n1_
                          have BK117 := n2_
                          have BK118 := n3_
                          have BK129 := n4_
                          have HB := n5_
                          clear n0_ n1_ n2_ n3_ n4_ n5_
                          have p130 : 0 ≤ (x9_1 : Int) := of_decide_eq_true (by first | (with_reducible assumption) | assumption)
                          have q130 : x9_1 < (l2.length : Int) := of_decide_eq_true (by first | (with_reducible assumption) | assumption)
                          obtain ⟨ad130, A130_1, c130_1, e130, hx130_0, hx130_1, hx130_2, hl130_1, hi130_1⟩ := at_T57 HR2.out x9_1 p130 q130
                          have hw130_2 := hx130_2
                          have hw130_1 := hx130_1
                          have hw130_0 := hx130_0
                          obtain rfl : ad120 = ad130 := (by injection e130)
                          replace hx130_0 := (HB.out.cell (World.block_lt_of_cell? w _ hx130_0)).trans hx130_0
                          replace hx130_1 := (HB.out.cell (World.block_lt_of_cell? w _ hx130_1)).trans hx130_1
                          replace hx130_2 := (HB.out.cell (World.block_lt_of_cell? w _ hx130_2)).trans hx130_2
                          have HR130_1 := Aside0.mk hi130_1
                          have HC130_1 := Aside0.mk hl130_1
                          clear hi130_1 hl130_1
                          replace p130 := eq_true p130
                          replace q130 := eq_true q130
                          refine start_ (n := 12) (S := fun w' => w'.cell? ⟨gb118, 0, none⟩ = some (.int .i64 x119000_1) ∧ w'.cell? ⟨gb118, 1, none⟩ = some (.int .i64 x119001_1) ∧ w'.cell? ⟨gb118, 2, none⟩ = some (.slice Ao47 x119002_1.length co47) ∧ w'.cell? ⟨gb118, 3, none⟩ = some (.int .i64 x119003_1) ∧ w'.cell? ⟨gb118, 4, none⟩ = some (.bool x119004_1) ∧ w'.cell? (ad120.add ((x9_1).toNat * 3)) = some (.int .i64 ((rd_T57 l2 x9_1).f0)) ∧ w'.cell? ⟨(ad120.add ((x9_1).toNat * 3)).block, (ad120.add ((x9_1).toNat * 3)).off + 1, none⟩ = some (.slice A130_1 ((rd_T57 l2 x9_1).f1).length c130_1) ∧ w'.cell? ⟨(ad120.add ((x9_1).toNat * 3)).block, (ad120.add ((x9_1).toNat * 3)).off + 2, none⟩ = some (.int .i64 ((rd_T57 l2 x9_1).f2))) (ds := []) #[false, false, false, false, false, false, false, false, false, false, false, false] (by kernel_rfl) rfl rfl ⟨(blk_cell BK118.out 0).trans rfl, (blk_cell BK118.out 1).trans rfl, (blk_cell BK118.out 2).trans rfl, (blk_cell BK118.out 3).trans rfl, (blk_cell BK118.out 4).trans rfl, ((HB.out.cell (World.block_lt_of_cell? w _ hw130_0)).trans hw130_0), ((HB.out.cell (World.block_lt_of_cell? w _ hw130_1)).trans hw130_1), ((HB.out.cell (World.block_lt_of_cell? w _ hw130_2)).trans hw130_2)⟩ (fun hHeld => ?_); refine with_tabW revetmentlaw04_ZonePlays.tab8 revetmentlaw04_ZonePlays.bits8 (fun HT_ HW_ => ?_)
                          generalize w48.drew = w49 at HO_119002 HO125 BK117 BK118 BK129 HB HR130_1 hx130_0 hx130_1 hx130_2 hHeld ⊢
                          refine pure_ (i := 1) (N := some 45) (v := ?_) (a' := ?_) #[false, true, false, false, false, false, false, false, false, false, false, false] rfl rfl (any_of HT_.out (by kernel_rfl)) (fun _ _ _ h => h) (Or.inl ⟨by rfl, ?_⟩) ?_ ?_
                          rotate_left
                          · intro w'
                            go_simp
                            with_reducible rfl
                          rotate_left
                          · simp only [Act.put, List.setIfInBounds_toArray, List.set_cons_zero, List.set_cons_succ, i64_w, i32_w]
                            rfl
                          refine pure_ (i := 2) (N := some 46) (v := ?_) (a' := ?_) #[false, true, true, false, false, false, false, false, false, false, false, false] rfl rfl (any_of HT_.out (by kernel_rfl)) (fun _ _ _ h => h) (Or.inl ⟨by rfl, ?_⟩) ?_ ?_
                          rotate_left
                          · intro w'
                            go_simp
                            with_reducible rfl
                          rotate_left
                          · simp only [Act.put, List.setIfInBounds_toArray, List.set_cons_zero, List.set_cons_succ, i64_w, i32_w]
                            rfl
                          refine pure_ (i := 3) (N := some 47) (v := ?_) (a' := ?_) #[false, true, true, true, false, false, false, false, false, false, false, false] rfl rfl (any_of HT_.out (by kernel_rfl)) (fun _ _ _ h => h) (Or.inl ⟨by rfl, ?_⟩) ?_ ?_
                          rotate_left
                          · intro w'
                            go_simp
                            with_reducible rfl
                          rotate_left
                          · simp only [Act.put, List.setIfInBounds_toArray, List.set_cons_zero, List.set_cons_succ, i64_w, i32_w]
                            rfl
                          refine take_ (i := 0) (N := some 44) (v := ?_) (a' := ?_) #[true, true, true, true, false, false, false, false, false, false, false, false] rfl rfl (take_ofW HT_.out HW_.out (by kernel_rfl)) (fun _ _ _ h => h) (Or.inl ⟨by rfl, ?_⟩) hHeld ?_ ?_
                          rotate_left
                          · rintro w' ⟨s0, s1, s2, s3, s4, s5, s6, s7⟩
                            go_simp
                            with_reducible rfl
                          rotate_left
                          · simp only [Act.put, List.setIfInBounds_toArray, List.set_cons_zero, List.set_cons_succ, i64_w, i32_w]
                            rfl
                          refine take_ (i := 4) (N := some 48) (v := ?_) (a' := ?_) #[true, true, true, true, true, false, false, false, false, false, false, false] rfl rfl (take_ofW HT_.out HW_.out (by kernel_rfl)) (fun _ _ _ h => h) (Or.inl ⟨by rfl, ?_⟩) hHeld ?_ ?_
                          rotate_left
                          · rintro w' ⟨s0, s1, s2, s3, s4, s5, s6, s7⟩
                            go_simp
                            with_reducible rfl
                          rotate_left
                          · simp only [Act.put, List.setIfInBounds_toArray, List.set_cons_zero, List.set_cons_succ, i64_w, i32_w]
                            rfl
                          refine join_ (σ := Value × Nat) 2 #[true, true, true, true, true, true, true, true, true, true, false, false] (fun s_ => [(49, .tuple #[.agg #[.int .i64 t131, .int .i64 t132, s_.1, .int .i64 t136, .bool t137], .int .i64 t138]), (12, .pointer (some ⟨s_.2, 0, none⟩)), (43, .tuple #[.agg #[.int .i64 t131, .int .i64 t132, s_.1, .int .i64 t136, .bool t137], .int .i64 t138]), (50, .agg #[.int .i64 t131, .int .i64 t132, s_.1, .int .i64 t136, .bool t137]), (51, .int .i64 t138)]) (fun s_ w' => (w'.cell? ⟨gb118, 0, none⟩ = some (.int .i64 x119000_1) ∧ w'.cell? ⟨gb118, 1, none⟩ = some (.int .i64 x119001_1) ∧ w'.cell? ⟨gb118, 2, none⟩ = some (.slice Ao47 x119002_1.length co47) ∧ w'.cell? ⟨gb118, 3, none⟩ = some (.int .i64 x119003_1) ∧ w'.cell? ⟨gb118, 4, none⟩ = some (.bool x119004_1) ∧ w'.cell? (ad120.add ((x9_1).toNat * 3)) = some (.int .i64 ((rd_T57 l2 x9_1).f0)) ∧ w'.cell? ⟨(ad120.add ((x9_1).toNat * 3)).block, (ad120.add ((x9_1).toNat * 3)).off + 1, none⟩ = some (.slice A130_1 ((rd_T57 l2 x9_1).f1).length c130_1) ∧ w'.cell? ⟨(ad120.add ((x9_1).toNat * 3)).block, (ad120.add ((x9_1).toNat * 3)).off + 2, none⟩ = some (.int .i64 ((rd_T57 l2 x9_1).f2))) ∧ (Kd.R (Kd.int .u8) 5 w' w.heap.size (fun _ => True) (.slice Ao43 t123.length co43) t123) ∧ (Kd.R Kd.string 9 w' w.heap.size (fun _ => True) s_.1 t133) ∧ (w'.heap[gb117]? = some (.cells #[.int .i64 x118000_1, .int .i64 x118001_1, .slice Ao36 x118002_1.length co36, .int .i64 x118003_1, .bool x118004_1] 54 (0, 0))) ∧ (w'.heap[gb118]? = some (.cells #[.int .i64 x119000_1, .int .i64 x119001_1, .slice Ao47 x119002_1.length co47, .int .i64 x119003_1, .bool x119004_1] 80 (0, 0))) ∧ (w'.heap[gb129]? = some (.cells #[.int .i64 t121, .int .i64 t122, .slice Ao43 t123.length co43, .int .i64 t126, .bool t127] 54 (0, 0))) ∧ (w'.heap[s_.2]? = some (.cells #[.int .i64 0, .int .i64 0, .slice none 0 0, .int .i64 0, .bool false] 80 (0, 0))) ∧ (w.heap.size ≤ s_.2) ∧ (w.heap.size ≤ s_.2) ∧ (gb117 ≠ s_.2) ∧ (s_.2 ≠ gb117) ∧ (gb118 ≠ s_.2) ∧ (s_.2 ≠ gb118) ∧ (gb129 ≠ s_.2) ∧ (s_.2 ≠ gb129) ∧ (Below w.heap.size w w')) ?_ ?_
                          rotate_left
                          · intro hCont
                            refine two_ (i := 5) (j := 9) (Ni := some 49) (Nj := some 12) #[true, true, true, true, true, true, false, false, false, false, false, false] #[true, true, true, true, true, false, false, false, false, true, false, false] rfl rfl rfl rfl (two_of HT_.out (by kernel_rfl)) (by decide) (by decide) (fun K hK => ?_) (fun K hK => ?_)
                            · skip
                              refine goes_ Try.func50 (by kernel_rfl) rfl #[.agg #[.int .i64 x119000_1, .int .i64 x119001_1, .slice Ao47 x119002_1.length co47, .int .i64 x119003_1, .bool x119004_1], .agg #[.int .i64 ((rd_T57 l2 x9_1).f0), .slice A130_1 ((rd_T57 l2 x9_1).f1).length c130_1, .int .i64 ((rd_T57 l2 x9_1).f2)]] (by rfl) rfl rfl (by (try simp only [List.map_toArray, List.map_cons, List.map_nil]); first | done | rfl | (simp only [List.length_drop, List.length_take]; rfl)) ?_
                              with_reducible refine (revetmentlaw04_should.calls k1 x119000_1 x119001_1 (fun k_ => some k_ = (.slice Ao47 x119002_1.length co47 : Value).ownBlock) (.slice Ao47 x119002_1.length co47) x119002_1 x119003_1 x119004_1 ((rd_T57 l2 x9_1).f0) _ _ ((rd_T57 l2 x9_1).f1) ((rd_T57 l2 x9_1).f2) t131 t132 t133 t136 t137 t138 w _ ?side1 ?side2 ?side3 ?side4 A22.out).mono ?_
                              (case side1 => repeat (first | (with_reducible first | exact HB.out | apply below_alloc | apply pw_below_drewN | apply below_drew1 | refine below_set ?_ GE117.out | refine below_set ?_ GE118.out | refine below_set ?_ GE129.out) | exact HB.out))
                              (case side2 => exact Kd.R_tight rfl HO_119002.out)
                              (case side3 => exact Kd.C_kept_came (Kd.heap_int .u8) HR130_1.out (by repeat (first | (with_reducible first | exact HB.out | apply below_alloc | apply pw_below_drewN | apply below_drew1 | refine below_set ?_ GE117.out | refine below_set ?_ GE118.out | refine below_set ?_ GE129.out) | exact HB.out)) (fun k_ hs_ => (fun e_ => Kd.R_base HO_119002.out k_ e_.symm) hs_))
                              (case side4 => exact HC130_1.out)
                              rintro e w50 ⟨v134, rfl, ho0, hb, hkp⟩
                              refine ⟨_, rfl, ?_⟩
                              have n0_ := Aside0.mk (blk_kept (by (with_reducible repeat (first | refine blk_drewN ?_ _ | refine blk_drew ?_ | refine blk_alloc ?_ _)); exact BK117.out) hkp (fun hs_ => (fun e_ => (Kd.R_ne HO_119002.out BK117.out (by decide)) e_) hs_))
                              have n1_ := Aside0.mk (blk_kept (by (with_reducible repeat (first | refine blk_drewN ?_ _ | refine blk_drew ?_ | refine blk_alloc ?_ _)); exact BK118.out) hkp (fun hs_ => (fun e_ => (Kd.R_ne HO_119002.out BK118.out (by decide)) e_) hs_))
                              have n2_ := Aside0.mk (Kd.R_mono (ok' := fun k_ => True) (Kd.R_keptB ((Kd.R_apart' HO125.out (Kd.R_typed HO_119002.out) (by decide))) hkp (fun k_ hk_ hs_ => (hk_.2) hs_)) (fun k_ hk_ => trivial))
                              have n3_ := Aside0.mk (blk_kept (by (with_reducible repeat (first | refine blk_drewN ?_ _ | refine blk_drew ?_ | refine blk_alloc ?_ _)); exact BK129.out) hkp (fun hs_ => (fun e_ => (Kd.R_ne HO_119002.out BK129.out (by decide)) e_) hs_))
                              have n4_ := Aside0.mk (Kd.R_mono (ok' := fun k_ => True) ho0 (fun k_ hk_ => trivial))
                              have n5_ := Aside0.mk (hb)
                              clear BK117
                              clear BK118
                              clear HO125
                              clear BK129
                              clear HB
                              clear HO_119002
                              have BK117 := n0_
                              have BK118 := n1_
                              have HO125 := n2_
                              have BK129 := n3_
                              have HO135 := n4_
                              have HB := n5_
                              clear n0_ n1_ n2_ n3_ n4_ n5_
                              (try clear hb)
                              (try clear hkp)
                              (try clear ho0)
                              refine hK.out _ _ ⟨(blk_cell BK118.out 0).trans rfl, (blk_cell BK118.out 1).trans rfl, (blk_cell BK118.out 2).trans rfl, (blk_cell BK118.out 3).trans rfl, (blk_cell BK118.out 4).trans rfl, ((HB.out.cell (World.block_lt_of_cell? w _ hw130_0)).trans hw130_0), ((HB.out.cell (World.block_lt_of_cell? w _ hw130_1)).trans hw130_1), ((HB.out.cell (World.block_lt_of_cell? w _ hw130_2)).trans hw130_2)⟩ (fun hHeld => ?_)
                              clear hK K
                              refine norm_ (a' := ?_) ?_ ?_
                              rotate_left
                              · show Act.put _ (some 49) _ = _
                                simp only [Act.put, List.setIfInBounds_toArray, List.set_cons_zero, List.set_cons_succ, i64_w, i32_w]
                                rfl
                              refine pure_ (i := 6) (N := some 43) (v := ?_) (a' := ?_) #[true, true, true, true, true, true, true, false, false, false, false, false] rfl rfl (any_of HT_.out (by kernel_rfl)) (fun _ _ _ h => h) (Or.inl ⟨by rfl, ?_⟩) ?_ ?_
                              rotate_left
                              · intro w'
                                go_simp
                                with_reducible rfl
                              rotate_left
                              · simp only [Act.put, List.setIfInBounds_toArray, List.set_cons_zero, List.set_cons_succ, i64_w, i32_w]
                                rfl
                              refine pure_ (i := 7) (N := some 50) (v := ?_) (a' := ?_) #[true, true, true, true, true, true, true, true, false, false, false, false] rfl rfl (any_of HT_.out (by kernel_rfl)) (fun _ _ _ h => h) (Or.inl ⟨by rfl, ?_⟩) ?_ ?_
                              rotate_left
                              · intro w'
                                go_simp
                                with_reducible rfl
                              rotate_left
                              · simp only [Act.put, List.setIfInBounds_toArray, List.set_cons_zero, List.set_cons_succ, i64_w, i32_w]
                                rfl
                              refine pure_ (i := 8) (N := some 51) (v := ?_) (a' := ?_) #[true, true, true, true, true, true, true, true, true, false, false, false] rfl rfl (any_of HT_.out (by kernel_rfl)) (fun _ _ _ h => h) (Or.inl ⟨by rfl, ?_⟩) ?_ ?_
                              rotate_left
                              · intro w'
                                go_simp
                                with_reducible rfl
                              rotate_left
                              · simp only [Act.put, List.setIfInBounds_toArray, List.set_cons_zero, List.set_cons_succ, i64_w, i32_w]
                                rfl
                              refine one_ (i := 9) (N := some 12) #[true, true, true, true, true, true, true, true, true, true, false, false] rfl rfl (one_of HT_.out (by kernel_rfl)) (by decide) (fun K hK => ?_)
                              refine box_step ?hg (N := 12) ?hd (cs := #[.int .i64 0, .int .i64 0, .slice none 0 0, .int .i64 0, .bool false]) (t := 80) ?hr ?_; (case hd => rfl); (case hg => rfl); (case hr => first | (go_simp; done) | (go_simp; rfl))
                              intro gb139 hg w51 hbox hb
                              have n0_ := Aside0.mk (Kd.R_below (by (with_reducible repeat (first | apply Kd.R_alloc | apply Kd.R_drewN | apply Kd.R_drew)); exact HO125.out) hb)
                              have n1_ := Aside0.mk (Kd.R_below (by (with_reducible repeat (first | apply Kd.R_alloc | apply Kd.R_drewN | apply Kd.R_drew)); exact HO135.out) hb)
                              have n2_ := Aside0.mk (blk_below (g := gb117) (o := .cells #[.int .i64 x118000_1, .int .i64 x118001_1, .slice Ao36 x118002_1.length co36, .int .i64 x118003_1, .bool x118004_1] 54 (0, 0)) (by (with_reducible repeat (first | refine blk_drewN ?_ _ | refine blk_drew ?_ | refine blk_alloc ?_ _)); exact BK117.out) hb)
                              have n3_ := Aside0.mk (blk_below (g := gb118) (o := .cells #[.int .i64 x119000_1, .int .i64 x119001_1, .slice Ao47 x119002_1.length co47, .int .i64 x119003_1, .bool x119004_1] 80 (0, 0)) (by (with_reducible repeat (first | refine blk_drewN ?_ _ | refine blk_drew ?_ | refine blk_alloc ?_ _)); exact BK118.out) hb)
                              have n4_ := Aside0.mk (blk_below (g := gb129) (o := .cells #[.int .i64 t121, .int .i64 t122, .slice Ao43 t123.length co43, .int .i64 t126, .bool t127] 54 (0, 0)) (by (with_reducible repeat (first | refine blk_drewN ?_ _ | refine blk_drew ?_ | refine blk_alloc ?_ _)); exact BK129.out) hb)
                              have n5_ := Aside0.mk (below_step (by repeat (first | (with_reducible first | exact HB.out | apply below_alloc | apply pw_below_drewN | apply below_drew1 | refine below_set ?_ GE117.out | refine below_set ?_ GE118.out | refine below_set ?_ GE129.out) | exact HB.out)) hb)
                              have n6_ := Aside0.mk (hbox)
                              have n7_ := Aside0.mk ((by rw [hg]; exact (below_size (by repeat (first | (with_reducible first | exact HB.out | apply below_alloc | apply pw_below_drewN | apply below_drew1 | refine below_set ?_ GE117.out | refine below_set ?_ GE118.out | refine below_set ?_ GE129.out) | exact HB.out))) : w.heap.size ≤ gb139))
                              have n8_ := Aside0.mk ((by rw [hg]; exact (below_size (by repeat (first | (with_reducible first | exact HB.out | apply below_alloc | apply pw_below_drewN | apply below_drew1 | refine below_set ?_ GE117.out | refine below_set ?_ GE118.out | refine below_set ?_ GE129.out) | exact HB.out))) : w.heap.size ≤ gb139))
                              have n9_ := Aside0.mk ((by rw [hg]; exact Nat.ne_of_lt (blk_lt (g := gb117) (o := .cells #[.int .i64 x118000_1, .int .i64 x118001_1, .slice Ao36 x118002_1.length co36, .int .i64 x118003_1, .bool x118004_1] 54 (0, 0)) (by (with_reducible repeat (first | refine blk_drewN ?_ _ | refine blk_drew ?_ | refine blk_alloc ?_ _)); exact BK117.out)) : gb117 ≠ gb139))
                              have n10_ := Aside0.mk ((by rw [hg]; exact Nat.ne_of_gt (blk_lt (g := gb117) (o := .cells #[.int .i64 x118000_1, .int .i64 x118001_1, .slice Ao36 x118002_1.length co36, .int .i64 x118003_1, .bool x118004_1] 54 (0, 0)) (by (with_reducible repeat (first | refine blk_drewN ?_ _ | refine blk_drew ?_ | refine blk_alloc ?_ _)); exact BK117.out)) : gb139 ≠ gb117))
                              have n11_ := Aside0.mk ((by rw [hg]; exact Nat.ne_of_lt (blk_lt (g := gb118) (o := .cells #[.int .i64 x119000_1, .int .i64 x119001_1, .slice Ao47 x119002_1.length co47, .int .i64 x119003_1, .bool x119004_1] 80 (0, 0)) (by (with_reducible repeat (first | refine blk_drewN ?_ _ | refine blk_drew ?_ | refine blk_alloc ?_ _)); exact BK118.out)) : gb118 ≠ gb139))
                              have n12_ := Aside0.mk ((by rw [hg]; exact Nat.ne_of_gt (blk_lt (g := gb118) (o := .cells #[.int .i64 x119000_1, .int .i64 x119001_1, .slice Ao47 x119002_1.length co47, .int .i64 x119003_1, .bool x119004_1] 80 (0, 0)) (by (with_reducible repeat (first | refine blk_drewN ?_ _ | refine blk_drew ?_ | refine blk_alloc ?_ _)); exact BK118.out)) : gb139 ≠ gb118))
                              have n13_ := Aside0.mk ((by rw [hg]; exact Nat.ne_of_lt (blk_lt (g := gb129) (o := .cells #[.int .i64 t121, .int .i64 t122, .slice Ao43 t123.length co43, .int .i64 t126, .bool t127] 54 (0, 0)) (by (with_reducible repeat (first | refine blk_drewN ?_ _ | refine blk_drew ?_ | refine blk_alloc ?_ _)); exact BK129.out)) : gb129 ≠ gb139))
                              have n14_ := Aside0.mk ((by rw [hg]; exact Nat.ne_of_gt (blk_lt (g := gb129) (o := .cells #[.int .i64 t121, .int .i64 t122, .slice Ao43 t123.length co43, .int .i64 t126, .bool t127] 54 (0, 0)) (by (with_reducible repeat (first | refine blk_drewN ?_ _ | refine blk_drew ?_ | refine blk_alloc ?_ _)); exact BK129.out)) : gb139 ≠ gb129))
                              clear HO125
                              clear HO135
                              clear BK117
                              clear BK118
                              clear BK129
                              clear HB
                              have HO125 := n0_
                              have HO135 := n1_
                              have BK117 := n2_
                              have BK118 := n3_
                              have BK129 := n4_
                              have HB := n5_
                              have BK139 := n6_
                              have GW139 := n7_
                              have GE139 := n8_
                              have NB117_139 := n9_
                              have NB139_117 := n10_
                              have NB118_139 := n11_
                              have NB139_118 := n12_
                              have NB129_139 := n13_
                              have NB139_129 := n14_
                              clear n0_ n1_ n2_ n3_ n4_ n5_ n6_ n7_ n8_ n9_ n10_ n11_ n12_ n13_ n14_
                              clear hb hbox hg
                              refine hK.out _ _ ⟨(blk_cell BK118.out 0).trans rfl, (blk_cell BK118.out 1).trans rfl, (blk_cell BK118.out 2).trans rfl, (blk_cell BK118.out 3).trans rfl, (blk_cell BK118.out 4).trans rfl, ((HB.out.cell (World.block_lt_of_cell? w _ hw130_0)).trans hw130_0), ((HB.out.cell (World.block_lt_of_cell? w _ hw130_1)).trans hw130_1), ((HB.out.cell (World.block_lt_of_cell? w _ hw130_2)).trans hw130_2)⟩ (fun hHeld => ?_)
                              clear hK K
                              refine norm_ (a' := ?_) ?_ ?_
                              rotate_left
                              · show Act.put _ (some 12) _ = _
                                simp only [Act.put, List.setIfInBounds_toArray, List.set_cons_zero, List.set_cons_succ, i64_w, i32_w]
                                rfl
                              exact norm_ (by simp only [putAll, Act.put, List.setIfInBounds_toArray, List.set_cons_zero, List.set_cons_succ]) (hCont (v134, gb139) _ ⟨hHeld, (by (with_reducible repeat (first | apply Kd.R_alloc | apply Kd.R_drewN | apply Kd.R_drew)); exact HO125.out), (by (with_reducible repeat (first | apply Kd.R_alloc | apply Kd.R_drewN | apply Kd.R_drew)); exact HO135.out), (by (with_reducible repeat (first | refine blk_drewN ?_ _ | refine blk_drew ?_ | refine blk_alloc ?_ _)); exact BK117.out), (by (with_reducible repeat (first | refine blk_drewN ?_ _ | refine blk_drew ?_ | refine blk_alloc ?_ _)); exact BK118.out), (by (with_reducible repeat (first | refine blk_drewN ?_ _ | refine blk_drew ?_ | refine blk_alloc ?_ _)); exact BK129.out), (by (with_reducible repeat (first | refine blk_drewN ?_ _ | refine blk_drew ?_ | refine blk_alloc ?_ _)); exact BK139.out), GW139.out, GE139.out, NB117_139.out, NB139_117.out, NB118_139.out, NB139_118.out, NB129_139.out, NB139_129.out, (by repeat (first | (with_reducible first | exact HB.out | apply below_alloc | apply pw_below_drewN | apply below_drew1 | refine below_set ?_ GE117.out | refine below_set ?_ GE118.out | refine below_set ?_ GE129.out | refine below_set ?_ GE139.out) | exact HB.out))⟩)
                            · skip
                              refine box_step ?hg (N := 12) ?hd (cs := #[.int .i64 0, .int .i64 0, .slice none 0 0, .int .i64 0, .bool false]) (t := 80) ?hr ?_; (case hd => rfl); (case hg => rfl); (case hr => first | (go_simp; done) | (go_simp; rfl))
                              intro gb139 hg w50 hbox hb
                              have n0_ := Aside0.mk (Kd.R_below (by (with_reducible repeat (first | apply Kd.R_alloc | apply Kd.R_drewN | apply Kd.R_drew)); exact HO_119002.out) hb)
                              have n1_ := Aside0.mk (Kd.R_below (by (with_reducible repeat (first | apply Kd.R_alloc | apply Kd.R_drewN | apply Kd.R_drew)); exact HO125.out) hb)
                              have n2_ := Aside0.mk (blk_below (g := gb117) (o := .cells #[.int .i64 x118000_1, .int .i64 x118001_1, .slice Ao36 x118002_1.length co36, .int .i64 x118003_1, .bool x118004_1] 54 (0, 0)) (by (with_reducible repeat (first | refine blk_drewN ?_ _ | refine blk_drew ?_ | refine blk_alloc ?_ _)); exact BK117.out) hb)
                              have n3_ := Aside0.mk (blk_below (g := gb118) (o := .cells #[.int .i64 x119000_1, .int .i64 x119001_1, .slice Ao47 x119002_1.length co47, .int .i64 x119003_1, .bool x119004_1] 80 (0, 0)) (by (with_reducible repeat (first | refine blk_drewN ?_ _ | refine blk_drew ?_ | refine blk_alloc ?_ _)); exact BK118.out) hb)
                              have n4_ := Aside0.mk (blk_below (g := gb129) (o := .cells #[.int .i64 t121, .int .i64 t122, .slice Ao43 t123.length co43, .int .i64 t126, .bool t127] 54 (0, 0)) (by (with_reducible repeat (first | refine blk_drewN ?_ _ | refine blk_drew ?_ | refine blk_alloc ?_ _)); exact BK129.out) hb)
                              have n5_ := Aside0.mk (below_step (by repeat (first | (with_reducible first | exact HB.out | apply below_alloc | apply pw_below_drewN | apply below_drew1 | refine below_set ?_ GE117.out | refine below_set ?_ GE118.out | refine below_set ?_ GE129.out) | exact HB.out)) hb)
                              have n6_ := Aside0.mk (hbox)
                              have n7_ := Aside0.mk ((by rw [hg]; exact (below_size (by repeat (first | (with_reducible first | exact HB.out | apply below_alloc | apply pw_below_drewN | apply below_drew1 | refine below_set ?_ GE117.out | refine below_set ?_ GE118.out | refine below_set ?_ GE129.out) | exact HB.out))) : w.heap.size ≤ gb139))
                              have n8_ := Aside0.mk ((by rw [hg]; exact (below_size (by repeat (first | (with_reducible first | exact HB.out | apply below_alloc | apply pw_below_drewN | apply below_drew1 | refine below_set ?_ GE117.out | refine below_set ?_ GE118.out | refine below_set ?_ GE129.out) | exact HB.out))) : w.heap.size ≤ gb139))
                              have n9_ := Aside0.mk ((by rw [hg]; exact Nat.ne_of_lt (blk_lt (g := gb117) (o := .cells #[.int .i64 x118000_1, .int .i64 x118001_1, .slice Ao36 x118002_1.length co36, .int .i64 x118003_1, .bool x118004_1] 54 (0, 0)) (by (with_reducible repeat (first | refine blk_drewN ?_ _ | refine blk_drew ?_ | refine blk_alloc ?_ _)); exact BK117.out)) : gb117 ≠ gb139))
                              have n10_ := Aside0.mk ((by rw [hg]; exact Nat.ne_of_gt (blk_lt (g := gb117) (o := .cells #[.int .i64 x118000_1, .int .i64 x118001_1, .slice Ao36 x118002_1.length co36, .int .i64 x118003_1, .bool x118004_1] 54 (0, 0)) (by (with_reducible repeat (first | refine blk_drewN ?_ _ | refine blk_drew ?_ | refine blk_alloc ?_ _)); exact BK117.out)) : gb139 ≠ gb117))
                              have n11_ := Aside0.mk ((by rw [hg]; exact Nat.ne_of_lt (blk_lt (g := gb118) (o := .cells #[.int .i64 x119000_1, .int .i64 x119001_1, .slice Ao47 x119002_1.length co47, .int .i64 x119003_1, .bool x119004_1] 80 (0, 0)) (by (with_reducible repeat (first | refine blk_drewN ?_ _ | refine blk_drew ?_ | refine blk_alloc ?_ _)); exact BK118.out)) : gb118 ≠ gb139))
                              have n12_ := Aside0.mk ((by rw [hg]; exact Nat.ne_of_gt (blk_lt (g := gb118) (o := .cells #[.int .i64 x119000_1, .int .i64 x119001_1, .slice Ao47 x119002_1.length co47, .int .i64 x119003_1, .bool x119004_1] 80 (0, 0)) (by (with_reducible repeat (first | refine blk_drewN ?_ _ | refine blk_drew ?_ | refine blk_alloc ?_ _)); exact BK118.out)) : gb139 ≠ gb118))
                              have n13_ := Aside0.mk ((by rw [hg]; exact Nat.ne_of_lt (blk_lt (g := gb129) (o := .cells #[.int .i64 t121, .int .i64 t122, .slice Ao43 t123.length co43, .int .i64 t126, .bool t127] 54 (0, 0)) (by (with_reducible repeat (first | refine blk_drewN ?_ _ | refine blk_drew ?_ | refine blk_alloc ?_ _)); exact BK129.out)) : gb129 ≠ gb139))
                              have n14_ := Aside0.mk ((by rw [hg]; exact Nat.ne_of_gt (blk_lt (g := gb129) (o := .cells #[.int .i64 t121, .int .i64 t122, .slice Ao43 t123.length co43, .int .i64 t126, .bool t127] 54 (0, 0)) (by (with_reducible repeat (first | refine blk_drewN ?_ _ | refine blk_drew ?_ | refine blk_alloc ?_ _)); exact BK129.out)) : gb139 ≠ gb129))
                              clear HO_119002
                              clear HO125
                              clear BK117
                              clear BK118
                              clear BK129
                              clear HB
                              have HO_119002 := n0_
                              have HO125 := n1_
                              have BK117 := n2_
                              have BK118 := n3_
                              have BK129 := n4_
                              have HB := n5_
                              have BK139 := n6_
                              have GW139 := n7_
                              have GE139 := n8_
                              have NB117_139 := n9_
                              have NB139_117 := n10_
                              have NB118_139 := n11_
                              have NB139_118 := n12_
                              have NB129_139 := n13_
                              have NB139_129 := n14_
                              clear n0_ n1_ n2_ n3_ n4_ n5_ n6_ n7_ n8_ n9_ n10_ n11_ n12_ n13_ n14_
                              clear hb hbox hg
                              refine hK.out _ _ ⟨(blk_cell BK118.out 0).trans rfl, (blk_cell BK118.out 1).trans rfl, (blk_cell BK118.out 2).trans rfl, (blk_cell BK118.out 3).trans rfl, (blk_cell BK118.out 4).trans rfl, ((HB.out.cell (World.block_lt_of_cell? w _ hw130_0)).trans hw130_0), ((HB.out.cell (World.block_lt_of_cell? w _ hw130_1)).trans hw130_1), ((HB.out.cell (World.block_lt_of_cell? w _ hw130_2)).trans hw130_2)⟩ (fun hHeld => ?_)
                              clear hK K
                              refine norm_ (a' := ?_) ?_ ?_
                              rotate_left
                              · show Act.put _ (some 12) _ = _
                                simp only [Act.put, List.setIfInBounds_toArray, List.set_cons_zero, List.set_cons_succ, i64_w, i32_w]
                                rfl
                              refine one_ (i := 5) (N := some 49) #[true, true, true, true, true, true, false, false, false, true, false, false] rfl rfl (one_of HT_.out (by kernel_rfl)) (by decide) (fun K hK => ?_)
                              refine goes_ Try.func50 (by kernel_rfl) rfl #[.agg #[.int .i64 x119000_1, .int .i64 x119001_1, .slice Ao47 x119002_1.length co47, .int .i64 x119003_1, .bool x119004_1], .agg #[.int .i64 ((rd_T57 l2 x9_1).f0), .slice A130_1 ((rd_T57 l2 x9_1).f1).length c130_1, .int .i64 ((rd_T57 l2 x9_1).f2)]] (by rfl) rfl rfl (by (try simp only [List.map_toArray, List.map_cons, List.map_nil]); first | done | rfl | (simp only [List.length_drop, List.length_take]; rfl)) ?_
                              with_reducible refine (revetmentlaw04_should.calls k1 x119000_1 x119001_1 (fun k_ => some k_ = (.slice Ao47 x119002_1.length co47 : Value).ownBlock) (.slice Ao47 x119002_1.length co47) x119002_1 x119003_1 x119004_1 ((rd_T57 l2 x9_1).f0) _ _ ((rd_T57 l2 x9_1).f1) ((rd_T57 l2 x9_1).f2) t131 t132 t133 t136 t137 t138 w _ ?side1 ?side2 ?side3 ?side4 A22.out).mono ?_
                              (case side1 => repeat (first | (with_reducible first | exact HB.out | apply below_alloc | apply pw_below_drewN | apply below_drew1 | refine below_set ?_ GE117.out | refine below_set ?_ GE118.out | refine below_set ?_ GE129.out | refine below_set ?_ GE139.out) | exact HB.out))
                              (case side2 => exact Kd.R_tight rfl HO_119002.out)
                              (case side3 => exact Kd.C_kept_came (Kd.heap_int .u8) HR130_1.out (by repeat (first | (with_reducible first | exact HB.out | apply below_alloc | apply pw_below_drewN | apply below_drew1 | refine below_set ?_ GE117.out | refine below_set ?_ GE118.out | refine below_set ?_ GE129.out | refine below_set ?_ GE139.out) | exact HB.out)) (fun k_ hs_ => (fun e_ => Kd.R_base HO_119002.out k_ e_.symm) hs_))
                              (case side4 => exact HC130_1.out)
                              rintro e w51 ⟨v134, rfl, ho0, hb, hkp⟩
                              refine ⟨_, rfl, ?_⟩
                              have n0_ := Aside0.mk (blk_kept (by (with_reducible repeat (first | refine blk_drewN ?_ _ | refine blk_drew ?_ | refine blk_alloc ?_ _)); exact BK117.out) hkp (fun hs_ => (fun e_ => (Kd.R_ne HO_119002.out BK117.out (by decide)) e_) hs_))
                              have n1_ := Aside0.mk (blk_kept (by (with_reducible repeat (first | refine blk_drewN ?_ _ | refine blk_drew ?_ | refine blk_alloc ?_ _)); exact BK118.out) hkp (fun hs_ => (fun e_ => (Kd.R_ne HO_119002.out BK118.out (by decide)) e_) hs_))
                              have n2_ := Aside0.mk (Kd.R_mono (ok' := fun k_ => True) (Kd.R_keptB ((Kd.R_apart' HO125.out (Kd.R_typed HO_119002.out) (by decide))) hkp (fun k_ hk_ hs_ => (hk_.2) hs_)) (fun k_ hk_ => trivial))
                              have n3_ := Aside0.mk (blk_kept (by (with_reducible repeat (first | refine blk_drewN ?_ _ | refine blk_drew ?_ | refine blk_alloc ?_ _)); exact BK129.out) hkp (fun hs_ => (fun e_ => (Kd.R_ne HO_119002.out BK129.out (by decide)) e_) hs_))
                              have n4_ := Aside0.mk (blk_kept (by (with_reducible repeat (first | refine blk_drewN ?_ _ | refine blk_drew ?_ | refine blk_alloc ?_ _)); exact BK139.out) hkp (fun hs_ => (fun e_ => (Kd.R_ne HO_119002.out BK139.out (by decide)) e_) hs_))
                              have n5_ := Aside0.mk (Kd.R_mono (ok' := fun k_ => True) ho0 (fun k_ hk_ => trivial))
                              have n6_ := Aside0.mk (hb)
                              clear BK117
                              clear BK118
                              clear HO125
                              clear BK129
                              clear BK139
                              clear HB
                              clear HO_119002
                              have BK117 := n0_
                              have BK118 := n1_
                              have HO125 := n2_
                              have BK129 := n3_
                              have BK139 := n4_
                              have HO135 := n5_
                              have HB := n6_
                              clear n0_ n1_ n2_ n3_ n4_ n5_ n6_
                              (try clear hb)
                              (try clear hkp)
                              (try clear ho0)
                              refine hK.out _ _ ⟨(blk_cell BK118.out 0).trans rfl, (blk_cell BK118.out 1).trans rfl, (blk_cell BK118.out 2).trans rfl, (blk_cell BK118.out 3).trans rfl, (blk_cell BK118.out 4).trans rfl, ((HB.out.cell (World.block_lt_of_cell? w _ hw130_0)).trans hw130_0), ((HB.out.cell (World.block_lt_of_cell? w _ hw130_1)).trans hw130_1), ((HB.out.cell (World.block_lt_of_cell? w _ hw130_2)).trans hw130_2)⟩ (fun hHeld => ?_)
                              clear hK K
                              refine norm_ (a' := ?_) ?_ ?_
                              rotate_left
                              · show Act.put _ (some 49) _ = _
                                simp only [Act.put, List.setIfInBounds_toArray, List.set_cons_zero, List.set_cons_succ, i64_w, i32_w]
                                rfl
                              refine pure_ (i := 6) (N := some 43) (v := ?_) (a' := ?_) #[true, true, true, true, true, true, true, false, false, true, false, false] rfl rfl (any_of HT_.out (by kernel_rfl)) (fun _ _ _ h => h) (Or.inl ⟨by rfl, ?_⟩) ?_ ?_
                              rotate_left
                              · intro w'
                                go_simp
                                with_reducible rfl
                              rotate_left
                              · simp only [Act.put, List.setIfInBounds_toArray, List.set_cons_zero, List.set_cons_succ, i64_w, i32_w]
                                rfl
                              refine pure_ (i := 7) (N := some 50) (v := ?_) (a' := ?_) #[true, true, true, true, true, true, true, true, false, true, false, false] rfl rfl (any_of HT_.out (by kernel_rfl)) (fun _ _ _ h => h) (Or.inl ⟨by rfl, ?_⟩) ?_ ?_
                              rotate_left
                              · intro w'
                                go_simp
                                with_reducible rfl
                              rotate_left
                              · simp only [Act.put, List.setIfInBounds_toArray, List.set_cons_zero, List.set_cons_succ, i64_w, i32_w]
                                rfl
                              refine pure_ (i := 8) (N := some 51) (v := ?_) (a' := ?_) #[true, true, true, true, true, true, true, true, true, true, false, false] rfl rfl (any_of HT_.out (by kernel_rfl)) (fun _ _ _ h => h) (Or.inl ⟨by rfl, ?_⟩) ?_ ?_
                              rotate_left
                              · intro w'
                                go_simp
                                with_reducible rfl
                              rotate_left
                              · simp only [Act.put, List.setIfInBounds_toArray, List.set_cons_zero, List.set_cons_succ, i64_w, i32_w]
                                rfl
                              exact norm_ (by simp only [putAll, Act.put, List.setIfInBounds_toArray, List.set_cons_zero, List.set_cons_succ]) (hCont (v134, gb139) _ ⟨hHeld, (by (with_reducible repeat (first | apply Kd.R_alloc | apply Kd.R_drewN | apply Kd.R_drew)); exact HO125.out), (by (with_reducible repeat (first | apply Kd.R_alloc | apply Kd.R_drewN | apply Kd.R_drew)); exact HO135.out), (by (with_reducible repeat (first | refine blk_drewN ?_ _ | refine blk_drew ?_ | refine blk_alloc ?_ _)); exact BK117.out), (by (with_reducible repeat (first | refine blk_drewN ?_ _ | refine blk_drew ?_ | refine blk_alloc ?_ _)); exact BK118.out), (by (with_reducible repeat (first | refine blk_drewN ?_ _ | refine blk_drew ?_ | refine blk_alloc ?_ _)); exact BK129.out), (by (with_reducible repeat (first | refine blk_drewN ?_ _ | refine blk_drew ?_ | refine blk_alloc ?_ _)); exact BK139.out), GW139.out, GE139.out, NB117_139.out, NB139_117.out, NB118_139.out, NB139_118.out, NB129_139.out, NB139_129.out, (by repeat (first | (with_reducible first | exact HB.out | apply below_alloc | apply pw_below_drewN | apply below_drew1 | refine below_set ?_ GE117.out | refine below_set ?_ GE118.out | refine below_set ?_ GE129.out | refine below_set ?_ GE139.out) | exact HB.out))⟩)
                          rintro ⟨v134, gb139⟩ w52 ⟨hS_, h0_, h1_, h2_, h3_, h4_, h5_, h6_, h7_, h8_, h9_, h10_, h11_, h12_, h13_, h14_⟩
                          have n0_ : Aside0 (Kd.R (Kd.int .u8) 5 w52 w.heap.size (fun _ => True) (.slice Ao43 t123.length co43) t123) := ⟨h0_⟩
                          have n1_ : Aside0 (Kd.R Kd.string 9 w52 w.heap.size (fun _ => True) v134 t133) := ⟨h1_⟩
                          have n2_ : Aside0 (w52.heap[gb117]? = some (.cells #[.int .i64 x118000_1, .int .i64 x118001_1, .slice Ao36 x118002_1.length co36, .int .i64 x118003_1, .bool x118004_1] 54 (0, 0))) := ⟨h2_⟩
                          have n3_ : Aside0 (w52.heap[gb118]? = some (.cells #[.int .i64 x119000_1, .int .i64 x119001_1, .slice Ao47 x119002_1.length co47, .int .i64 x119003_1, .bool x119004_1] 80 (0, 0))) := ⟨h3_⟩
                          have n4_ : Aside0 (w52.heap[gb129]? = some (.cells #[.int .i64 t121, .int .i64 t122, .slice Ao43 t123.length co43, .int .i64 t126, .bool t127] 54 (0, 0))) := ⟨h4_⟩
                          have n5_ : Aside0 (w52.heap[gb139]? = some (.cells #[.int .i64 0, .int .i64 0, .slice none 0 0, .int .i64 0, .bool false] 80 (0, 0))) := ⟨h5_⟩
                          have n6_ : Aside0 (w.heap.size ≤ gb139) := ⟨h6_⟩
                          have n7_ : Aside0 (w.heap.size ≤ gb139) := ⟨h7_⟩
                          have n8_ : Aside0 (gb117 ≠ gb139) := ⟨h8_⟩
                          have n9_ : Aside0 (gb139 ≠ gb117) := ⟨h9_⟩
                          have n10_ : Aside0 (gb118 ≠ gb139) := ⟨h10_⟩
                          have n11_ : Aside0 (gb139 ≠ gb118) := ⟨h11_⟩
                          have n12_ : Aside0 (gb129 ≠ gb139) := ⟨h12_⟩
                          have n13_ : Aside0 (gb139 ≠ gb129) := ⟨h13_⟩
                          have n14_ : Aside0 (Below w.heap.size w w52) := ⟨h14_⟩
                          clear HO_119002
                          clear HO125
                          clear BK117
                          clear BK118
                          clear BK129
                          clear HB
                          clear h0_ h1_ h2_ h3_ h4_ h5_ h6_ h7_ h8_ h9_ h10_ h11_ h12_ h13_ h14_
                          have HO125 := n0_
                          have HO135 := n1_
                          have BK117 := n2_
                          have BK118 := n3_
                          have BK129 := n4_
                          have BK139 := n5_
                          have GW139 := n6_
                          have GE139 := n7_
                          have NB117_139 := n8_
                          have NB139_117 := n9_
                          have NB118_139 := n10_
                          have NB139_118 := n11_
                          have NB129_139 := n12_
                          have NB139_129 := n13_
                          have HB := n14_
                          clear n0_ n1_ n2_ n3_ n4_ n5_ n6_ n7_ n8_ n9_ n10_ n11_ n12_ n13_ n14_
                          have hHeld : w52.cell? ⟨gb118, 0, none⟩ = some (.int .i64 x119000_1) ∧ w52.cell? ⟨gb118, 1, none⟩ = some (.int .i64 x119001_1) ∧ w52.cell? ⟨gb118, 2, none⟩ = some (.slice Ao47 x119002_1.length co47) ∧ w52.cell? ⟨gb118, 3, none⟩ = some (.int .i64 x119003_1) ∧ w52.cell? ⟨gb118, 4, none⟩ = some (.bool x119004_1) ∧ w52.cell? (ad120.add ((x9_1).toNat * 3)) = some (.int .i64 ((rd_T57 l2 x9_1).f0)) ∧ w52.cell? ⟨(ad120.add ((x9_1).toNat * 3)).block, (ad120.add ((x9_1).toNat * 3)).off + 1, none⟩ = some (.slice A130_1 ((rd_T57 l2 x9_1).f1).length c130_1) ∧ w52.cell? ⟨(ad120.add ((x9_1).toNat * 3)).block, (ad120.add ((x9_1).toNat * 3)).off + 2, none⟩ = some (.int .i64 ((rd_T57 l2 x9_1).f2)) := hS_
                          obtain ⟨Ao55, co55, eo55⟩ := Kd.R_slice HO135.out
                          (first | subst eo55 | (injection eo55 with f1_ f2_ f3_; have f4_ := f1_.symm; have f5_ := f3_.symm; clear f1_ f2_ f3_; subst f4_; subst f5_))
                          refine norm_ (a' := ?_) ?_ ?_
                          rotate_left
                          · simp only [putAll, Act.put, List.setIfInBounds_toArray, List.set_cons_zero, List.set_cons_succ]
                            rfl
                          refine one_ (i := 10) (N := none) #[true, true, true, true, true, true, true, true, true, true, true, false] rfl rfl (one_of HT_.out (by kernel_rfl)) (by decide) (fun K hK => ?_)
                          have hs53 : w52.cell? ⟨gb139, 0, none⟩ = some (.int .i64 0) := (blk_cell BK139.out 0).trans rfl
                          have hfs53 := blk_frozen BK139.out 0
                          have hns53_0 := NB117_139.out
                          have hns53_1 := NB118_139.out
                          have hns53_2 := NB129_139.out
                          have hms53_0 := NB139_117.out
                          have hms53_1 := NB139_118.out
                          have hms53_2 := NB139_129.out
                          have hs54 : w52.cell? ⟨gb139, 1, none⟩ = some (.int .i64 0) := (blk_cell BK139.out 1).trans rfl
                          have hfs54 := blk_frozen BK139.out 1
                          have hns54_0 := NB117_139.out
                          have hns54_1 := NB118_139.out
                          have hns54_2 := NB129_139.out
                          have hms54_0 := NB139_117.out
                          have hms54_1 := NB139_118.out
                          have hms54_2 := NB139_129.out
                          have hs56 : w52.cell? ⟨gb139, 2, none⟩ = some (.slice none 0 0) := (blk_cell BK139.out 2).trans rfl
                          have hfs56 := blk_frozen BK139.out 2
                          have hns56_0 := NB117_139.out
                          have hns56_1 := NB118_139.out
                          have hns56_2 := NB129_139.out
                          have hms56_0 := NB139_117.out
                          have hms56_1 := NB139_118.out
                          have hms56_2 := NB139_129.out
                          have hs57 : w52.cell? ⟨gb139, 3, none⟩ = some (.int .i64 0) := (blk_cell BK139.out 3).trans rfl
                          have hfs57 := blk_frozen BK139.out 3
                          have hns57_0 := NB117_139.out
                          have hns57_1 := NB118_139.out
                          have hns57_2 := NB129_139.out
                          have hms57_0 := NB139_117.out
                          have hms57_1 := NB139_118.out
                          have hms57_2 := NB139_129.out
                          have hs58 : w52.cell? ⟨gb139, 4, none⟩ = some (.bool false) := (blk_cell BK139.out 4).trans rfl
                          have hfs58 := blk_frozen BK139.out 4
                          have hns58_0 := NB117_139.out
                          have hns58_1 := NB118_139.out
                          have hns58_2 := NB129_139.out
                          have hms58_0 := NB139_117.out
                          have hms58_1 := NB139_118.out
                          have hms58_2 := NB139_129.out
                          refine skip_ (w1 := ?_) (by rfl) rfl ?_ ?_
                          rotate_left
                          · go_simp
                            rfl
                          refine hK.out _ _ ⟨((cell_far (p := ⟨gb139, _, none⟩) NB118_139.out _).trans (((cell_far (p := ⟨gb139, _, none⟩) NB118_139.out _).trans (((cell_far (p := ⟨gb139, _, none⟩) NB118_139.out _).trans (((cell_far (p := ⟨gb139, _, none⟩) NB118_139.out _).trans (((cell_far (p := ⟨gb139, _, none⟩) NB118_139.out _).trans (hHeld.1)))))))))), ((cell_far (p := ⟨gb139, _, none⟩) NB118_139.out _).trans (((cell_far (p := ⟨gb139, _, none⟩) NB118_139.out _).trans (((cell_far (p := ⟨gb139, _, none⟩) NB118_139.out _).trans (((cell_far (p := ⟨gb139, _, none⟩) NB118_139.out _).trans (((cell_far (p := ⟨gb139, _, none⟩) NB118_139.out _).trans (hHeld.2.1)))))))))), ((cell_far (p := ⟨gb139, _, none⟩) NB118_139.out _).trans (((cell_far (p := ⟨gb139, _, none⟩) NB118_139.out _).trans (((cell_far (p := ⟨gb139, _, none⟩) NB118_139.out _).trans (((cell_far (p := ⟨gb139, _, none⟩) NB118_139.out _).trans (((cell_far (p := ⟨gb139, _, none⟩) NB118_139.out _).trans (hHeld.2.2.1)))))))))), ((cell_far (p := ⟨gb139, _, none⟩) NB118_139.out _).trans (((cell_far (p := ⟨gb139, _, none⟩) NB118_139.out _).trans (((cell_far (p := ⟨gb139, _, none⟩) NB118_139.out _).trans (((cell_far (p := ⟨gb139, _, none⟩) NB118_139.out _).trans (((cell_far (p := ⟨gb139, _, none⟩) NB118_139.out _).trans (hHeld.2.2.2.1)))))))))), ((cell_far (p := ⟨gb139, _, none⟩) NB118_139.out _).trans (((cell_far (p := ⟨gb139, _, none⟩) NB118_139.out _).trans (((cell_far (p := ⟨gb139, _, none⟩) NB118_139.out _).trans (((cell_far (p := ⟨gb139, _, none⟩) NB118_139.out _).trans (((cell_far (p := ⟨gb139, _, none⟩) NB118_139.out _).trans (hHeld.2.2.2.2.1)))))))))), ((cell_far (p := ⟨gb139, _, none⟩) (by first | exact Nat.ne_of_lt (Nat.lt_of_lt_of_le (by have := World.block_lt_of_cell? _ _ hw130_0; first | rwa [add_block] at this | exact this) GW139.out) | (rw [add_block]; exact Nat.ne_of_lt (Nat.lt_of_lt_of_le (by have := World.block_lt_of_cell? _ _ hw130_0; first | rwa [add_block] at this | exact this) GW139.out)) | (show (Addr.add _ _).block ≠ _; rw [add_block]; exact Nat.ne_of_lt (Nat.lt_of_lt_of_le (by have := World.block_lt_of_cell? _ _ hw130_0; first | rwa [add_block] at this | exact this) GW139.out)) | (dsimp only; exact Nat.ne_of_lt (Nat.lt_of_lt_of_le (by have := World.block_lt_of_cell? _ _ hw130_0; first | rwa [add_block] at this | exact this) GW139.out))) _).trans (((cell_far (p := ⟨gb139, _, none⟩) (by first | exact Nat.ne_of_lt (Nat.lt_of_lt_of_le (by have := World.block_lt_of_cell? _ _ hw130_0; first | rwa [add_block] at this | exact this) GW139.out) | (rw [add_block]; exact Nat.ne_of_lt (Nat.lt_of_lt_of_le (by have := World.block_lt_of_cell? _ _ hw130_0; first | rwa [add_block] at this | exact this) GW139.out)) | (show (Addr.add _ _).block ≠ _; rw [add_block]; exact Nat.ne_of_lt (Nat.lt_of_lt_of_le (by have := World.block_lt_of_cell? _ _ hw130_0; first | rwa [add_block] at this | exact this) GW139.out)) | (dsimp only; exact Nat.ne_of_lt (Nat.lt_of_lt_of_le (by have := World.block_lt_of_cell? _ _ hw130_0; first | rwa [add_block] at this | exact this) GW139.out))) _).trans (((cell_far (p := ⟨gb139, _, none⟩) (by first | exact Nat.ne_of_lt (Nat.lt_of_lt_of_le (by have := World.block_lt_of_cell? _ _ hw130_0; first | rwa [add_block] at this | exact this) GW139.out) | (rw [add_block]; exact Nat.ne_of_lt (Nat.lt_of_lt_of_le (by have := World.block_lt_of_cell? _ _ hw130_0; first | rwa [add_block] at this | exact this) GW139.out)) | (show (Addr.add _ _).block ≠ _; rw [add_block]; exact Nat.ne_of_lt (Nat.lt_of_lt_of_le (by have := World.block_lt_of_cell? _ _ hw130_0; first | rwa [add_block] at this | exact this) GW139.out)) | (dsimp only; exact Nat.ne_of_lt (Nat.lt_of_lt_of_le (by have := World.block_lt_of_cell? _ _ hw130_0; first | rwa [add_block] at this | exact this) GW139.out))) _).trans (((cell_far (p := ⟨gb139, _, none⟩) (by first | exact Nat.ne_of_lt (Nat.lt_of_lt_of_le (by have := World.block_lt_of_cell? _ _ hw130_0; first | rwa [add_block] at this | exact this) GW139.out) | (rw [add_block]; exact Nat.ne_of_lt (Nat.lt_of_lt_of_le (by have := World.block_lt_of_cell? _ _ hw130_0; first | rwa [add_block] at this | exact this) GW139.out)) | (show (Addr.add _ _).block ≠ _; rw [add_block]; exact Nat.ne_of_lt (Nat.lt_of_lt_of_le (by have := World.block_lt_of_cell? _ _ hw130_0; first | rwa [add_block] at this | exact this) GW139.out)) | (dsimp only; exact Nat.ne_of_lt (Nat.lt_of_lt_of_le (by have := World.block_lt_of_cell? _ _ hw130_0; first | rwa [add_block] at this | exact this) GW139.out))) _).trans (((cell_far (p := ⟨gb139, _, none⟩) (by first | exact Nat.ne_of_lt (Nat.lt_of_lt_of_le (by have := World.block_lt_of_cell? _ _ hw130_0; first | rwa [add_block] at this | exact this) GW139.out) | (rw [add_block]; exact Nat.ne_of_lt (Nat.lt_of_lt_of_le (by have := World.block_lt_of_cell? _ _ hw130_0; first | rwa [add_block] at this | exact this) GW139.out)) | (show (Addr.add _ _).block ≠ _; rw [add_block]; exact Nat.ne_of_lt (Nat.lt_of_lt_of_le (by have := World.block_lt_of_cell? _ _ hw130_0; first | rwa [add_block] at this | exact this) GW139.out)) | (dsimp only; exact Nat.ne_of_lt (Nat.lt_of_lt_of_le (by have := World.block_lt_of_cell? _ _ hw130_0; first | rwa [add_block] at this | exact this) GW139.out))) _).trans (hHeld.2.2.2.2.2.1)))))))))), ((cell_far (p := ⟨gb139, _, none⟩) (by first | exact Nat.ne_of_lt (Nat.lt_of_lt_of_le (by have := World.block_lt_of_cell? _ _ hw130_1; first | rwa [add_block] at this | exact this) GW139.out) | (rw [add_block]; exact Nat.ne_of_lt (Nat.lt_of_lt_of_le (by have := World.block_lt_of_cell? _ _ hw130_1; first | rwa [add_block] at this | exact this) GW139.out)) | (show (Addr.add _ _).block ≠ _; rw [add_block]; exact Nat.ne_of_lt (Nat.lt_of_lt_of_le (by have := World.block_lt_of_cell? _ _ hw130_1; first | rwa [add_block] at this | exact this) GW139.out)) | (dsimp only; exact Nat.ne_of_lt (Nat.lt_of_lt_of_le (by have := World.block_lt_of_cell? _ _ hw130_1; first | rwa [add_block] at this | exact this) GW139.out))) _).trans (((cell_far (p := ⟨gb139, _, none⟩) (by first | exact Nat.ne_of_lt (Nat.lt_of_lt_of_le (by have := World.block_lt_of_cell? _ _ hw130_1; first | rwa [add_block] at this | exact this) GW139.out) | (rw [add_block]; exact Nat.ne_of_lt (Nat.lt_of_lt_of_le (by have := World.block_lt_of_cell? _ _ hw130_1; first | rwa [add_block] at this | exact this) GW139.out)) | (show (Addr.add _ _).block ≠ _; rw [add_block]; exact Nat.ne_of_lt (Nat.lt_of_lt_of_le (by have := World.block_lt_of_cell? _ _ hw130_1; first | rwa [add_block] at this | exact this) GW139.out)) | (dsimp only; exact Nat.ne_of_lt (Nat.lt_of_lt_of_le (by have := World.block_lt_of_cell? _ _ hw130_1; first | rwa [add_block] at this | exact this) GW139.out))) _).trans (((cell_far (p := ⟨gb139, _, none⟩) (by first | exact Nat.ne_of_lt (Nat.lt_of_lt_of_le (by have := World.block_lt_of_cell? _ _ hw130_1; first | rwa [add_block] at this | exact this) GW139.out) | (rw [add_block]; exact Nat.ne_of_lt (Nat.lt_of_lt_of_le (by have := World.block_lt_of_cell? _ _ hw130_1; first | rwa [add_block] at this | exact this) GW139.out)) | (show (Addr.add _ _).block ≠ _; rw [add_block]; exact Nat.ne_of_lt (Nat.lt_of_lt_of_le (by have := World.block_lt_of_cell? _ _ hw130_1; first | rwa [add_block] at this | exact this) GW139.out)) | (dsimp only; exact Nat.ne_of_lt (Nat.lt_of_lt_of_le (by have := World.block_lt_of_cell? _ _ hw130_1; first | rwa [add_block] at this | exact this) GW139.out))) _).trans (((cell_far (p := ⟨gb139, _, none⟩) (by first | exact Nat.ne_of_lt (Nat.lt_of_lt_of_le (by have := World.block_lt_of_cell? _ _ hw130_1; first | rwa [add_block] at this | exact this) GW139.out) | (rw [add_block]; exact Nat.ne_of_lt (Nat.lt_of_lt_of_le (by have := World.block_lt_of_cell? _ _ hw130_1; first | rwa [add_block] at this | exact this) GW139.out)) | (show (Addr.add _ _).block ≠ _; rw [add_block]; exact Nat.ne_of_lt (Nat.lt_of_lt_of_le (by have := World.block_lt_of_cell? _ _ hw130_1; first | rwa [add_block] at this | exact this) GW139.out)) | (dsimp only; exact Nat.ne_of_lt (Nat.lt_of_lt_of_le (by have := World.block_lt_of_cell? _ _ hw130_1; first | rwa [add_block] at this | exact this) GW139.out))) _).trans (((cell_far (p := ⟨gb139, _, none⟩) (by first | exact Nat.ne_of_lt (Nat.lt_of_lt_of_le (by have := World.block_lt_of_cell? _ _ hw130_1; first | rwa [add_block] at this | exact this) GW139.out) | (rw [add_block]; exact Nat.ne_of_lt (Nat.lt_of_lt_of_le (by have := World.block_lt_of_cell? _ _ hw130_1; first | rwa [add_block] at this | exact this) GW139.out)) | (show (Addr.add _ _).block ≠ _; rw [add_block]; exact Nat.ne_of_lt (Nat.lt_of_lt_of_le (by have := World.block_lt_of_cell? _ _ hw130_1; first | rwa [add_block] at this | exact this) GW139.out)) | (dsimp only; exact Nat.ne_of_lt (Nat.lt_of_lt_of_le (by have := World.block_lt_of_cell? _ _ hw130_1; first | rwa [add_block] at this | exact this) GW139.out))) _).trans (hHeld.2.2.2.2.2.2.1)))))))))), ((cell_far (p := ⟨gb139, _, none⟩) (by first | exact Nat.ne_of_lt (Nat.lt_of_lt_of_le (by have := World.block_lt_of_cell? _ _ hw130_2; first | rwa [add_block] at this | exact this) GW139.out) | (rw [add_block]; exact Nat.ne_of_lt (Nat.lt_of_lt_of_le (by have := World.block_lt_of_cell? _ _ hw130_2; first | rwa [add_block] at this | exact this) GW139.out)) | (show (Addr.add _ _).block ≠ _; rw [add_block]; exact Nat.ne_of_lt (Nat.lt_of_lt_of_le (by have := World.block_lt_of_cell? _ _ hw130_2; first | rwa [add_block] at this | exact this) GW139.out)) | (dsimp only; exact Nat.ne_of_lt (Nat.lt_of_lt_of_le (by have := World.block_lt_of_cell? _ _ hw130_2; first | rwa [add_block] at this | exact this) GW139.out))) _).trans (((cell_far (p := ⟨gb139, _, none⟩) (by first | exact Nat.ne_of_lt (Nat.lt_of_lt_of_le (by have := World.block_lt_of_cell? _ _ hw130_2; first | rwa [add_block] at this | exact this) GW139.out) | (rw [add_block]; exact Nat.ne_of_lt (Nat.lt_of_lt_of_le (by have := World.block_lt_of_cell? _ _ hw130_2; first | rwa [add_block] at this | exact this) GW139.out)) | (show (Addr.add _ _).block ≠ _; rw [add_block]; exact Nat.ne_of_lt (Nat.lt_of_lt_of_le (by have := World.block_lt_of_cell? _ _ hw130_2; first | rwa [add_block] at this | exact this) GW139.out)) | (dsimp only; exact Nat.ne_of_lt (Nat.lt_of_lt_of_le (by have := World.block_lt_of_cell? _ _ hw130_2; first | rwa [add_block] at this | exact this) GW139.out))) _).trans (((cell_far (p := ⟨gb139, _, none⟩) (by first | exact Nat.ne_of_lt (Nat.lt_of_lt_of_le (by have := World.block_lt_of_cell? _ _ hw130_2; first | rwa [add_block] at this | exact this) GW139.out) | (rw [add_block]; exact Nat.ne_of_lt (Nat.lt_of_lt_of_le (by have := World.block_lt_of_cell? _ _ hw130_2; first | rwa [add_block] at this | exact this) GW139.out)) | (show (Addr.add _ _).block ≠ _; rw [add_block]; exact Nat.ne_of_lt (Nat.lt_of_lt_of_le (by have := World.block_lt_of_cell? _ _ hw130_2; first | rwa [add_block] at this | exact this) GW139.out)) | (dsimp only; exact Nat.ne_of_lt (Nat.lt_of_lt_of_le (by have := World.block_lt_of_cell? _ _ hw130_2; first | rwa [add_block] at this | exact this) GW139.out))) _).trans (((cell_far (p := ⟨gb139, _, none⟩) (by first | exact Nat.ne_of_lt (Nat.lt_of_lt_of_le (by have := World.block_lt_of_cell? _ _ hw130_2; first | rwa [add_block] at this | exact this) GW139.out) | (rw [add_block]; exact Nat.ne_of_lt (Nat.lt_of_lt_of_le (by have := World.block_lt_of_cell? _ _ hw130_2; first | rwa [add_block] at this | exact this) GW139.out)) | (show (Addr.add _ _).block ≠ _; rw [add_block]; exact Nat.ne_of_lt (Nat.lt_of_lt_of_le (by have := World.block_lt_of_cell? _ _ hw130_2; first | rwa [add_block] at this | exact this) GW139.out)) | (dsimp only; exact Nat.ne_of_lt (Nat.lt_of_lt_of_le (by have := World.block_lt_of_cell? _ _ hw130_2; first | rwa [add_block] at this | exact this) GW139.out))) _).trans (((cell_far (p := ⟨gb139, _, none⟩) (by first | exact Nat.ne_of_lt (Nat.lt_of_lt_of_le (by have := World.block_lt_of_cell? _ _ hw130_2; first | rwa [add_block] at this | exact this) GW139.out) | (rw [add_block]; exact Nat.ne_of_lt (Nat.lt_of_lt_of_le (by have := World.block_lt_of_cell? _ _ hw130_2; first | rwa [add_block] at this | exact this) GW139.out)) | (show (Addr.add _ _).block ≠ _; rw [add_block]; exact Nat.ne_of_lt (Nat.lt_of_lt_of_le (by have := World.block_lt_of_cell? _ _ hw130_2; first | rwa [add_block] at this | exact this) GW139.out)) | (dsimp only; exact Nat.ne_of_lt (Nat.lt_of_lt_of_le (by have := World.block_lt_of_cell? _ _ hw130_2; first | rwa [add_block] at this | exact this) GW139.out))) _).trans (hHeld.2.2.2.2.2.2.2))))))))))⟩ (fun hHeld => ?_)
                          clear hK K
                          refine pure_ (i := 11) (N := some 13) (v := ?_) (a' := ?_) #[true, true, true, true, true, true, true, true, true, true, true, true] rfl rfl (any_of HT_.out (by kernel_rfl)) (fun _ _ _ h => h) (Or.inl ⟨by rfl, ?_⟩) ?_ ?_
                          rotate_left
                          · intro w'
                            go_simp
                            with_reducible rfl
                          rotate_left
                          · simp only [Act.put, List.setIfInBounds_toArray, List.set_cons_zero, List.set_cons_succ, i64_w, i32_w]
                            rfl
                          refine done_ (done_of HT_.out (by kernel_rfl)) ?_
                          try go_wp2
                          have n0_ : Aside0 (Kd.R (Kd.int .u8) 5 (((((w52.setCell ⟨gb139, 0, none⟩ (.int .i64 t131)).setCell ⟨gb139, 1, none⟩ (.int .i64 t132)).setCell ⟨gb139, 2, none⟩ (.slice Ao55 t133.length co55)).setCell ⟨gb139, 3, none⟩ (.int .i64 t136)).setCell ⟨gb139, 4, none⟩ (.bool t137)) w.heap.size (fun _ => True) (.slice Ao43 t123.length co43) t123) := ⟨by (with_reducible repeat (first | apply Kd.R_alloc | apply Kd.R_drewN | apply Kd.R_drew)); exact Kd.R_mono (Kd.R_far (p := ⟨gb139, 4, none⟩) (Kd.R_far (p := ⟨gb139, 3, none⟩) (Kd.R_far (p := ⟨gb139, 2, none⟩) (Kd.R_far (p := ⟨gb139, 1, none⟩) (Kd.R_far (p := ⟨gb139, 0, none⟩) (Kd.R_types HO125.out BK139.out (by decide)) (fun _ hk => hk.2) (.int .i64 t131)) (fun _ hk => hk.2) (.int .i64 t132)) (fun _ hk => hk.2) (.slice Ao55 t133.length co55)) (fun _ hk => hk.2) (.int .i64 t136)) (fun _ hk => hk.2) (.bool t137)) (fun _ hk => trivial)⟩
                          have n1_ : Aside0 (Kd.R Kd.string 9 (((((w52.setCell ⟨gb139, 0, none⟩ (.int .i64 t131)).setCell ⟨gb139, 1, none⟩ (.int .i64 t132)).setCell ⟨gb139, 2, none⟩ (.slice Ao55 t133.length co55)).setCell ⟨gb139, 3, none⟩ (.int .i64 t136)).setCell ⟨gb139, 4, none⟩ (.bool t137)) w.heap.size (fun _ => True) (.slice Ao55 t133.length co55) t133) := ⟨by (with_reducible repeat (first | apply Kd.R_alloc | apply Kd.R_drewN | apply Kd.R_drew)); exact Kd.R_mono (Kd.R_far (p := ⟨gb139, 4, none⟩) (Kd.R_far (p := ⟨gb139, 3, none⟩) (Kd.R_far (p := ⟨gb139, 2, none⟩) (Kd.R_far (p := ⟨gb139, 1, none⟩) (Kd.R_far (p := ⟨gb139, 0, none⟩) (Kd.R_types HO135.out BK139.out (by decide)) (fun _ hk => hk.2) (.int .i64 t131)) (fun _ hk => hk.2) (.int .i64 t132)) (fun _ hk => hk.2) (.slice Ao55 t133.length co55)) (fun _ hk => hk.2) (.int .i64 t136)) (fun _ hk => hk.2) (.bool t137)) (fun _ hk => trivial)⟩
                          have n2_ : Aside0 ((((((w52.setCell ⟨gb139, 0, none⟩ (.int .i64 t131)).setCell ⟨gb139, 1, none⟩ (.int .i64 t132)).setCell ⟨gb139, 2, none⟩ (.slice Ao55 t133.length co55)).setCell ⟨gb139, 3, none⟩ (.int .i64 t136)).setCell ⟨gb139, 4, none⟩ (.bool t137)).heap[gb117]? = some (.cells #[.int .i64 x118000_1, .int .i64 x118001_1, .slice Ao36 x118002_1.length co36, .int .i64 x118003_1, .bool x118004_1] 54 (0, 0))) := ⟨by (with_reducible repeat (first | refine blk_drewN ?_ _ | refine blk_drew ?_ | refine blk_alloc ?_ _)); refine blk_far ?_ NB117_139.out _; (with_reducible repeat (first | refine blk_drewN ?_ _ | refine blk_drew ?_ | refine blk_alloc ?_ _)); refine blk_far ?_ NB117_139.out _; (with_reducible repeat (first | refine blk_drewN ?_ _ | refine blk_drew ?_ | refine blk_alloc ?_ _)); refine blk_far ?_ NB117_139.out _; (with_reducible repeat (first | refine blk_drewN ?_ _ | refine blk_drew ?_ | refine blk_alloc ?_ _)); refine blk_far ?_ NB117_139.out _; (with_reducible repeat (first | refine blk_drewN ?_ _ | refine blk_drew ?_ | refine blk_alloc ?_ _)); refine blk_far ?_ NB117_139.out _; (with_reducible repeat (first | refine blk_drewN ?_ _ | refine blk_drew ?_ | refine blk_alloc ?_ _)); exact BK117.out⟩
                          have n3_ : Aside0 ((((((w52.setCell ⟨gb139, 0, none⟩ (.int .i64 t131)).setCell ⟨gb139, 1, none⟩ (.int .i64 t132)).setCell ⟨gb139, 2, none⟩ (.slice Ao55 t133.length co55)).setCell ⟨gb139, 3, none⟩ (.int .i64 t136)).setCell ⟨gb139, 4, none⟩ (.bool t137)).heap[gb118]? = some (.cells #[.int .i64 x119000_1, .int .i64 x119001_1, .slice Ao47 x119002_1.length co47, .int .i64 x119003_1, .bool x119004_1] 80 (0, 0))) := ⟨by (with_reducible repeat (first | refine blk_drewN ?_ _ | refine blk_drew ?_ | refine blk_alloc ?_ _)); refine blk_far ?_ NB118_139.out _; (with_reducible repeat (first | refine blk_drewN ?_ _ | refine blk_drew ?_ | refine blk_alloc ?_ _)); refine blk_far ?_ NB118_139.out _; (with_reducible repeat (first | refine blk_drewN ?_ _ | refine blk_drew ?_ | refine blk_alloc ?_ _)); refine blk_far ?_ NB118_139.out _; (with_reducible repeat (first | refine blk_drewN ?_ _ | refine blk_drew ?_ | refine blk_alloc ?_ _)); refine blk_far ?_ NB118_139.out _; (with_reducible repeat (first | refine blk_drewN ?_ _ | refine blk_drew ?_ | refine blk_alloc ?_ _)); refine blk_far ?_ NB118_139.out _; (with_reducible repeat (first | refine blk_drewN ?_ _ | refine blk_drew ?_ | refine blk_alloc ?_ _)); exact BK118.out⟩
                          have n4_ : Aside0 ((((((w52.setCell ⟨gb139, 0, none⟩ (.int .i64 t131)).setCell ⟨gb139, 1, none⟩ (.int .i64 t132)).setCell ⟨gb139, 2, none⟩ (.slice Ao55 t133.length co55)).setCell ⟨gb139, 3, none⟩ (.int .i64 t136)).setCell ⟨gb139, 4, none⟩ (.bool t137)).heap[gb129]? = some (.cells #[.int .i64 t121, .int .i64 t122, .slice Ao43 t123.length co43, .int .i64 t126, .bool t127] 54 (0, 0))) := ⟨by (with_reducible repeat (first | refine blk_drewN ?_ _ | refine blk_drew ?_ | refine blk_alloc ?_ _)); refine blk_far ?_ NB129_139.out _; (with_reducible repeat (first | refine blk_drewN ?_ _ | refine blk_drew ?_ | refine blk_alloc ?_ _)); refine blk_far ?_ NB129_139.out _; (with_reducible repeat (first | refine blk_drewN ?_ _ | refine blk_drew ?_ | refine blk_alloc ?_ _)); refine blk_far ?_ NB129_139.out _; (with_reducible repeat (first | refine blk_drewN ?_ _ | refine blk_drew ?_ | refine blk_alloc ?_ _)); refine blk_far ?_ NB129_139.out _; (with_reducible repeat (first | refine blk_drewN ?_ _ | refine blk_drew ?_ | refine blk_alloc ?_ _)); refine blk_far ?_ NB129_139.out _; (with_reducible repeat (first | refine blk_drewN ?_ _ | refine blk_drew ?_ | refine blk_alloc ?_ _)); exact BK129.out⟩
                          have n5_ : Aside0 ((((((w52.setCell ⟨gb139, 0, none⟩ (.int .i64 t131)).setCell ⟨gb139, 1, none⟩ (.int .i64 t132)).setCell ⟨gb139, 2, none⟩ (.slice Ao55 t133.length co55)).setCell ⟨gb139, 3, none⟩ (.int .i64 t136)).setCell ⟨gb139, 4, none⟩ (.bool t137)).heap[gb139]? = some (.cells #[.int .i64 t131, .int .i64 t132, .slice Ao55 t133.length co55, .int .i64 t136, .bool t137] 80 (0, 0))) := ⟨by (with_reducible repeat (first | refine blk_drewN ?_ _ | refine blk_drew ?_ | refine blk_alloc ?_ _)); refine blk_put (cs := #[.int .i64 t131, .int .i64 t132, .slice Ao55 t133.length co55, .int .i64 t136, .bool false]) ?_ 4 _ rfl; (with_reducible repeat (first | refine blk_drewN ?_ _ | refine blk_drew ?_ | refine blk_alloc ?_ _)); refine blk_put (cs := #[.int .i64 t131, .int .i64 t132, .slice Ao55 t133.length co55, .int .i64 0, .bool false]) ?_ 3 _ rfl; (with_reducible repeat (first | refine blk_drewN ?_ _ | refine blk_drew ?_ | refine blk_alloc ?_ _)); refine blk_put (cs := #[.int .i64 t131, .int .i64 t132, .slice none 0 0, .int .i64 0, .bool false]) ?_ 2 _ rfl; (with_reducible repeat (first | refine blk_drewN ?_ _ | refine blk_drew ?_ | refine blk_alloc ?_ _)); refine blk_put (cs := #[.int .i64 t131, .int .i64 0, .slice none 0 0, .int .i64 0, .bool false]) ?_ 1 _ rfl; (with_reducible repeat (first | refine blk_drewN ?_ _ | refine blk_drew ?_ | refine blk_alloc ?_ _)); refine blk_put (cs := #[.int .i64 0, .int .i64 0, .slice none 0 0, .int .i64 0, .bool false]) ?_ 0 _ rfl; (with_reducible repeat (first | refine blk_drewN ?_ _ | refine blk_drew ?_ | refine blk_alloc ?_ _)); exact BK139.out⟩
                          have n6_ : Aside0 (Below w.heap.size w (((((w52.setCell ⟨gb139, 0, none⟩ (.int .i64 t131)).setCell ⟨gb139, 1, none⟩ (.int .i64 t132)).setCell ⟨gb139, 2, none⟩ (.slice Ao55 t133.length co55)).setCell ⟨gb139, 3, none⟩ (.int .i64 t136)).setCell ⟨gb139, 4, none⟩ (.bool t137))) := ⟨by repeat (first | (with_reducible first | exact HB.out | apply below_alloc | apply pw_below_drewN | apply below_drew1 | refine below_set ?_ GE117.out | refine below_set ?_ GE118.out | refine below_set ?_ GE129.out | refine below_set ?_ GE139.out) | exact HB.out)⟩
                          (try clear HO125)
                          (try clear HO135)
                          (try clear BK117)
                          (try clear BK118)
                          (try clear BK129)
                          (try clear BK139)
                          (try clear HB)
                          generalize (((((w52.setCell ⟨gb139, 0, none⟩ (.int .i64 t131)).setCell ⟨gb139, 1, none⟩ (.int .i64 t132)).setCell ⟨gb139, 2, none⟩ (.slice Ao55 t133.length co55)).setCell ⟨gb139, 3, none⟩ (.int .i64 t136)).setCell ⟨gb139, 4, none⟩ (.bool t137)) = w59 at n0_ n1_ n2_ n3_ n4_ n5_ n6_ ⊢
                          have HO125 := n0_
                          have HO135 := n1_
                          have BK117 := n2_
                          have BK118 := n3_
                          have BK129 := n4_
                          have BK139 := n5_
                          have HB := n6_
                          clear n0_ n1_ n2_ n3_ n4_ n5_ n6_
                          have n0_ := Aside0.mk (Kd.R_drew HO125.out)
                          have n1_ := Aside0.mk (Kd.R_drew HO135.out)
                          have n2_ := Aside0.mk (blk_drew BK117.out)
                          have n3_ := Aside0.mk (blk_drew BK118.out)
                          have n4_ := Aside0.mk (blk_drew BK129.out)
                          have n5_ := Aside0.mk (blk_drew BK139.out)
                          have n6_ := Aside0.mk (below_drew1 HB.out)
                          clear HO125
                          clear HO135
                          clear BK117
                          clear BK118
                          clear BK129
                          clear BK139
                          clear HB
                          have HO125 := n0_
                          have HO135 := n1_
                          have BK117 := n2_
                          have BK118 := n3_
                          have BK129 := n4_
                          have BK139 := n5_
                          have HB := n6_
                          clear n0_ n1_ n2_ n3_ n4_ n5_ n6_
                          refine start_ (n := 4) (S := fun w' => w'.cell? ⟨gb129, 0, none⟩ = some (.int .i64 t121) ∧ w'.cell? ⟨gb129, 1, none⟩ = some (.int .i64 t122) ∧ w'.cell? ⟨gb129, 2, none⟩ = some (.slice Ao43 t123.length co43) ∧ w'.cell? ⟨gb129, 3, none⟩ = some (.int .i64 t126) ∧ w'.cell? ⟨gb129, 4, none⟩ = some (.bool t127) ∧ w'.cell? ⟨gb139, 0, none⟩ = some (.int .i64 t131) ∧ w'.cell? ⟨gb139, 1, none⟩ = some (.int .i64 t132) ∧ w'.cell? ⟨gb139, 2, none⟩ = some (.slice Ao55 t133.length co55) ∧ w'.cell? ⟨gb139, 3, none⟩ = some (.int .i64 t136) ∧ w'.cell? ⟨gb139, 4, none⟩ = some (.bool t137)) (ds := []) #[false, false, false, false] (by kernel_rfl) rfl rfl ⟨(blk_cell BK129.out 0).trans rfl, (blk_cell BK129.out 1).trans rfl, (blk_cell BK129.out 2).trans rfl, (blk_cell BK129.out 3).trans rfl, (blk_cell BK129.out 4).trans rfl, (blk_cell BK139.out 0).trans rfl, (blk_cell BK139.out 1).trans rfl, (blk_cell BK139.out 2).trans rfl, (blk_cell BK139.out 3).trans rfl, (blk_cell BK139.out 4).trans rfl⟩ (fun hHeld => ?_)
                          generalize w59.drew = w60 at HO125 HO135 BK117 BK118 BK129 BK139 HB hHeld ⊢
                          refine take_ (i := 0) (N := some 52) (v := ?_) (a' := ?_) #[true, false, false, false] rfl rfl (by kernel_rfl) (fun _ _ _ h => h) (Or.inl ⟨by rfl, ?_⟩) hHeld ?_ ?_
                          rotate_left
                          · rintro w' ⟨s0, s1, s2, s3, s4, s5, s6, s7, s8, s9⟩
                            go_simp
                            with_reducible rfl
                          rotate_left
                          · simp only [Act.put, List.setIfInBounds_toArray, List.set_cons_zero, List.set_cons_succ, i64_w, i32_w]
                            rfl
                          refine take_ (i := 1) (N := some 53) (v := ?_) (a' := ?_) #[true, true, false, false] rfl rfl (by kernel_rfl) (fun _ _ _ h => h) (Or.inl ⟨by rfl, ?_⟩) hHeld ?_ ?_
                          rotate_left
                          · rintro w' ⟨s0, s1, s2, s3, s4, s5, s6, s7, s8, s9⟩
                            go_simp
                            with_reducible rfl
                          rotate_left
                          · simp only [Act.put, List.setIfInBounds_toArray, List.set_cons_zero, List.set_cons_succ, i64_w, i32_w]
                            rfl
                          refine one_ (i := 2) (N := none) #[true, true, true, false] rfl rfl (by kernel_rfl) (by decide) (fun K hK => ?_)
                          have hs61 : w60.cell? ⟨gb117, 0, none⟩ = some (.int .i64 x118000_1) := (blk_cell BK117.out 0).trans rfl
                          have hfs61 := blk_frozen BK117.out 0
                          have hns61_1 := NB118_117.out
                          have hns61_2 := NB129_117.out
                          have hns61_3 := NB139_117.out
                          have hms61_1 := NB117_118.out
                          have hms61_2 := NB117_129.out
                          have hms61_3 := NB117_139.out
                          have hs62 : w60.cell? ⟨gb117, 1, none⟩ = some (.int .i64 x118001_1) := (blk_cell BK117.out 1).trans rfl
                          have hfs62 := blk_frozen BK117.out 1
                          have hns62_1 := NB118_117.out
                          have hns62_2 := NB129_117.out
                          have hns62_3 := NB139_117.out
                          have hms62_1 := NB117_118.out
                          have hms62_2 := NB117_129.out
                          have hms62_3 := NB117_139.out
                          have hs63 : w60.cell? ⟨gb117, 2, none⟩ = some (.slice Ao36 x118002_1.length co36) := (blk_cell BK117.out 2).trans rfl
                          have hfs63 := blk_frozen BK117.out 2
                          have hns63_1 := NB118_117.out
                          have hns63_2 := NB129_117.out
                          have hns63_3 := NB139_117.out
                          have hms63_1 := NB117_118.out
                          have hms63_2 := NB117_129.out
                          have hms63_3 := NB117_139.out
                          have hs64 : w60.cell? ⟨gb117, 3, none⟩ = some (.int .i64 x118003_1) := (blk_cell BK117.out 3).trans rfl
                          have hfs64 := blk_frozen BK117.out 3
                          have hns64_1 := NB118_117.out
                          have hns64_2 := NB129_117.out
                          have hns64_3 := NB139_117.out
                          have hms64_1 := NB117_118.out
                          have hms64_2 := NB117_129.out
                          have hms64_3 := NB117_139.out
                          have hs65 : w60.cell? ⟨gb117, 4, none⟩ = some (.bool x118004_1) := (blk_cell BK117.out 4).trans rfl
                          have hfs65 := blk_frozen BK117.out 4
                          have hns65_1 := NB118_117.out
                          have hns65_2 := NB129_117.out
                          have hns65_3 := NB139_117.out
                          have hms65_1 := NB117_118.out
                          have hms65_2 := NB117_129.out
                          have hms65_3 := NB117_139.out
                          refine skip_ (w1 := ?_) (by rfl) rfl ?_ ?_
                          rotate_left
                          · go_simp
                            rfl
                          refine hK.out _ _ ⟨((cell_far (p := ⟨gb117, _, none⟩) NB129_117.out _).trans (((cell_far (p := ⟨gb117, _, none⟩) NB129_117.out _).trans (((cell_far (p := ⟨gb117, _, none⟩) NB129_117.out _).trans (((cell_far (p := ⟨gb117, _, none⟩) NB129_117.out _).trans (((cell_far (p := ⟨gb117, _, none⟩) NB129_117.out _).trans (hHeld.1)))))))))), ((cell_far (p := ⟨gb117, _, none⟩) NB129_117.out _).trans (((cell_far (p := ⟨gb117, _, none⟩) NB129_117.out _).trans (((cell_far (p := ⟨gb117, _, none⟩) NB129_117.out _).trans (((cell_far (p := ⟨gb117, _, none⟩) NB129_117.out _).trans (((cell_far (p := ⟨gb117, _, none⟩) NB129_117.out _).trans (hHeld.2.1)))))))))), ((cell_far (p := ⟨gb117, _, none⟩) NB129_117.out _).trans (((cell_far (p := ⟨gb117, _, none⟩) NB129_117.out _).trans (((cell_far (p := ⟨gb117, _, none⟩) NB129_117.out _).trans (((cell_far (p := ⟨gb117, _, none⟩) NB129_117.out _).trans (((cell_far (p := ⟨gb117, _, none⟩) NB129_117.out _).trans (hHeld.2.2.1)))))))))), ((cell_far (p := ⟨gb117, _, none⟩) NB129_117.out _).trans (((cell_far (p := ⟨gb117, _, none⟩) NB129_117.out _).trans (((cell_far (p := ⟨gb117, _, none⟩) NB129_117.out _).trans (((cell_far (p := ⟨gb117, _, none⟩) NB129_117.out _).trans (((cell_far (p := ⟨gb117, _, none⟩) NB129_117.out _).trans (hHeld.2.2.2.1)))))))))), ((cell_far (p := ⟨gb117, _, none⟩) NB129_117.out _).trans (((cell_far (p := ⟨gb117, _, none⟩) NB129_117.out _).trans (((cell_far (p := ⟨gb117, _, none⟩) NB129_117.out _).trans (((cell_far (p := ⟨gb117, _, none⟩) NB129_117.out _).trans (((cell_far (p := ⟨gb117, _, none⟩) NB129_117.out _).trans (hHeld.2.2.2.2.1)))))))))), ((cell_far (p := ⟨gb117, _, none⟩) NB139_117.out _).trans (((cell_far (p := ⟨gb117, _, none⟩) NB139_117.out _).trans (((cell_far (p := ⟨gb117, _, none⟩) NB139_117.out _).trans (((cell_far (p := ⟨gb117, _, none⟩) NB139_117.out _).trans (((cell_far (p := ⟨gb117, _, none⟩) NB139_117.out _).trans (hHeld.2.2.2.2.2.1)))))))))), ((cell_far (p := ⟨gb117, _, none⟩) NB139_117.out _).trans (((cell_far (p := ⟨gb117, _, none⟩) NB139_117.out _).trans (((cell_far (p := ⟨gb117, _, none⟩) NB139_117.out _).trans (((cell_far (p := ⟨gb117, _, none⟩) NB139_117.out _).trans (((cell_far (p := ⟨gb117, _, none⟩) NB139_117.out _).trans (hHeld.2.2.2.2.2.2.1)))))))))), ((cell_far (p := ⟨gb117, _, none⟩) NB139_117.out _).trans (((cell_far (p := ⟨gb117, _, none⟩) NB139_117.out _).trans (((cell_far (p := ⟨gb117, _, none⟩) NB139_117.out _).trans (((cell_far (p := ⟨gb117, _, none⟩) NB139_117.out _).trans (((cell_far (p := ⟨gb117, _, none⟩) NB139_117.out _).trans (hHeld.2.2.2.2.2.2.2.1)))))))))), ((cell_far (p := ⟨gb117, _, none⟩) NB139_117.out _).trans (((cell_far (p := ⟨gb117, _, none⟩) NB139_117.out _).trans (((cell_far (p := ⟨gb117, _, none⟩) NB139_117.out _).trans (((cell_far (p := ⟨gb117, _, none⟩) NB139_117.out _).trans (((cell_far (p := ⟨gb117, _, none⟩) NB139_117.out _).trans (hHeld.2.2.2.2.2.2.2.2.1)))))))))), ((cell_far (p := ⟨gb117, _, none⟩) NB139_117.out _).trans (((cell_far (p := ⟨gb117, _, none⟩) NB139_117.out _).trans (((cell_far (p := ⟨gb117, _, none⟩) NB139_117.out _).trans (((cell_far (p := ⟨gb117, _, none⟩) NB139_117.out _).trans (((cell_far (p := ⟨gb117, _, none⟩) NB139_117.out _).trans (hHeld.2.2.2.2.2.2.2.2.2))))))))))⟩ (fun hHeld => ?_)
                          clear hK K
                          refine one_ (i := 3) (N := none) #[true, true, true, true] rfl rfl (by kernel_rfl) (by decide) (fun K hK => ?_)
                          have hs66 : w60.cell? ⟨gb118, 0, none⟩ = some (.int .i64 x119000_1) := (blk_cell BK118.out 0).trans rfl
                          have hfs66 := blk_frozen BK118.out 0
                          have hns66_0 := NB117_118.out
                          have hns66_2 := NB129_118.out
                          have hns66_3 := NB139_118.out
                          have hms66_0 := NB118_117.out
                          have hms66_2 := NB118_129.out
                          have hms66_3 := NB118_139.out
                          have hs67 : w60.cell? ⟨gb118, 1, none⟩ = some (.int .i64 x119001_1) := (blk_cell BK118.out 1).trans rfl
                          have hfs67 := blk_frozen BK118.out 1
                          have hns67_0 := NB117_118.out
                          have hns67_2 := NB129_118.out
                          have hns67_3 := NB139_118.out
                          have hms67_0 := NB118_117.out
                          have hms67_2 := NB118_129.out
                          have hms67_3 := NB118_139.out
                          have hs68 : w60.cell? ⟨gb118, 2, none⟩ = some (.slice Ao47 x119002_1.length co47) := (blk_cell BK118.out 2).trans rfl
                          have hfs68 := blk_frozen BK118.out 2
                          have hns68_0 := NB117_118.out
                          have hns68_2 := NB129_118.out
                          have hns68_3 := NB139_118.out
                          have hms68_0 := NB118_117.out
                          have hms68_2 := NB118_129.out
                          have hms68_3 := NB118_139.out
                          have hs69 : w60.cell? ⟨gb118, 3, none⟩ = some (.int .i64 x119003_1) := (blk_cell BK118.out 3).trans rfl
                          have hfs69 := blk_frozen BK118.out 3
                          have hns69_0 := NB117_118.out
                          have hns69_2 := NB129_118.out
                          have hns69_3 := NB139_118.out
                          have hms69_0 := NB118_117.out
                          have hms69_2 := NB118_129.out
                          have hms69_3 := NB118_139.out
                          have hs70 : w60.cell? ⟨gb118, 4, none⟩ = some (.bool x119004_1) := (blk_cell BK118.out 4).trans rfl
                          have hfs70 := blk_frozen BK118.out 4
                          have hns70_0 := NB117_118.out
                          have hns70_2 := NB129_118.out
                          have hns70_3 := NB139_118.out
                          have hms70_0 := NB118_117.out
                          have hms70_2 := NB118_129.out
                          have hms70_3 := NB118_139.out
                          refine skip_ (w1 := ?_) (by rfl) rfl ?_ ?_
                          rotate_left
                          · go_simp
                            rfl
                          refine hK.out _ _ ⟨((cell_far (p := ⟨gb118, _, none⟩) NB129_118.out _).trans (((cell_far (p := ⟨gb118, _, none⟩) NB129_118.out _).trans (((cell_far (p := ⟨gb118, _, none⟩) NB129_118.out _).trans (((cell_far (p := ⟨gb118, _, none⟩) NB129_118.out _).trans (((cell_far (p := ⟨gb118, _, none⟩) NB129_118.out _).trans (hHeld.1)))))))))), ((cell_far (p := ⟨gb118, _, none⟩) NB129_118.out _).trans (((cell_far (p := ⟨gb118, _, none⟩) NB129_118.out _).trans (((cell_far (p := ⟨gb118, _, none⟩) NB129_118.out _).trans (((cell_far (p := ⟨gb118, _, none⟩) NB129_118.out _).trans (((cell_far (p := ⟨gb118, _, none⟩) NB129_118.out _).trans (hHeld.2.1)))))))))), ((cell_far (p := ⟨gb118, _, none⟩) NB129_118.out _).trans (((cell_far (p := ⟨gb118, _, none⟩) NB129_118.out _).trans (((cell_far (p := ⟨gb118, _, none⟩) NB129_118.out _).trans (((cell_far (p := ⟨gb118, _, none⟩) NB129_118.out _).trans (((cell_far (p := ⟨gb118, _, none⟩) NB129_118.out _).trans (hHeld.2.2.1)))))))))), ((cell_far (p := ⟨gb118, _, none⟩) NB129_118.out _).trans (((cell_far (p := ⟨gb118, _, none⟩) NB129_118.out _).trans (((cell_far (p := ⟨gb118, _, none⟩) NB129_118.out _).trans (((cell_far (p := ⟨gb118, _, none⟩) NB129_118.out _).trans (((cell_far (p := ⟨gb118, _, none⟩) NB129_118.out _).trans (hHeld.2.2.2.1)))))))))), ((cell_far (p := ⟨gb118, _, none⟩) NB129_118.out _).trans (((cell_far (p := ⟨gb118, _, none⟩) NB129_118.out _).trans (((cell_far (p := ⟨gb118, _, none⟩) NB129_118.out _).trans (((cell_far (p := ⟨gb118, _, none⟩) NB129_118.out _).trans (((cell_far (p := ⟨gb118, _, none⟩) NB129_118.out _).trans (hHeld.2.2.2.2.1)))))))))), ((cell_far (p := ⟨gb118, _, none⟩) NB139_118.out _).trans (((cell_far (p := ⟨gb118, _, none⟩) NB139_118.out _).trans (((cell_far (p := ⟨gb118, _, none⟩) NB139_118.out _).trans (((cell_far (p := ⟨gb118, _, none⟩) NB139_118.out _).trans (((cell_far (p := ⟨gb118, _, none⟩) NB139_118.out _).trans (hHeld.2.2.2.2.2.1)))))))))), ((cell_far (p := ⟨gb118, _, none⟩) NB139_118.out _).trans (((cell_far (p := ⟨gb118, _, none⟩) NB139_118.out _).trans (((cell_far (p := ⟨gb118, _, none⟩) NB139_118.out _).trans (((cell_far (p := ⟨gb118, _, none⟩) NB139_118.out _).trans (((cell_far (p := ⟨gb118, _, none⟩) NB139_118.out _).trans (hHeld.2.2.2.2.2.2.1)))))))))), ((cell_far (p := ⟨gb118, _, none⟩) NB139_118.out _).trans (((cell_far (p := ⟨gb118, _, none⟩) NB139_118.out _).trans (((cell_far (p := ⟨gb118, _, none⟩) NB139_118.out _).trans (((cell_far (p := ⟨gb118, _, none⟩) NB139_118.out _).trans (((cell_far (p := ⟨gb118, _, none⟩) NB139_118.out _).trans (hHeld.2.2.2.2.2.2.2.1)))))))))), ((cell_far (p := ⟨gb118, _, none⟩) NB139_118.out _).trans (((cell_far (p := ⟨gb118, _, none⟩) NB139_118.out _).trans (((cell_far (p := ⟨gb118, _, none⟩) NB139_118.out _).trans (((cell_far (p := ⟨gb118, _, none⟩) NB139_118.out _).trans (((cell_far (p := ⟨gb118, _, none⟩) NB139_118.out _).trans (hHeld.2.2.2.2.2.2.2.2.1)))))))))), ((cell_far (p := ⟨gb118, _, none⟩) NB139_118.out _).trans (((cell_far (p := ⟨gb118, _, none⟩) NB139_118.out _).trans (((cell_far (p := ⟨gb118, _, none⟩) NB139_118.out _).trans (((cell_far (p := ⟨gb118, _, none⟩) NB139_118.out _).trans (((cell_far (p := ⟨gb118, _, none⟩) NB139_118.out _).trans (hHeld.2.2.2.2.2.2.2.2.2))))))))))⟩ (fun hHeld => ?_)
                          clear hK K
                          refine done_ (by kernel_rfl) ?_
                          have hnb71 := NB117_118.out
                          have hnc71 := NB118_117.out
                          have hnb72 := NB117_129.out
                          have hnc72 := NB129_117.out
                          have hnb73 := NB117_139.out
                          have hnc73 := NB139_117.out
                          have hcz74_0 : w60.cell? ⟨gb117, 0, none⟩ = some (.int .i64 x118000_1) := (blk_cell BK117.out 0).trans rfl
                          have hcz74_1 : w60.cell? ⟨gb117, 1, none⟩ = some (.int .i64 x118001_1) := (blk_cell BK117.out 1).trans rfl
                          have hcz74_2 : w60.cell? ⟨gb117, 2, none⟩ = some (.slice Ao36 x118002_1.length co36) := (blk_cell BK117.out 2).trans rfl
                          have hcz74_3 : w60.cell? ⟨gb117, 3, none⟩ = some (.int .i64 x118003_1) := (blk_cell BK117.out 3).trans rfl
                          have hcz74_4 : w60.cell? ⟨gb117, 4, none⟩ = some (.bool x118004_1) := (blk_cell BK117.out 4).trans rfl
                          have hfz74_0 := blk_frozen BK117.out 0
                          have hfz74_1 := blk_frozen BK117.out 1
                          have hfz74_2 := blk_frozen BK117.out 2
                          have hfz74_3 := blk_frozen BK117.out 3
                          have hfz74_4 := blk_frozen BK117.out 4
                          have hnb75 := NB118_129.out
                          have hnc75 := NB129_118.out
                          have hnb76 := NB118_139.out
                          have hnc76 := NB139_118.out
                          have hcz77_0 : w60.cell? ⟨gb118, 0, none⟩ = some (.int .i64 x119000_1) := (blk_cell BK118.out 0).trans rfl
                          have hcz77_1 : w60.cell? ⟨gb118, 1, none⟩ = some (.int .i64 x119001_1) := (blk_cell BK118.out 1).trans rfl
                          have hcz77_2 : w60.cell? ⟨gb118, 2, none⟩ = some (.slice Ao47 x119002_1.length co47) := (blk_cell BK118.out 2).trans rfl
                          have hcz77_3 : w60.cell? ⟨gb118, 3, none⟩ = some (.int .i64 x119003_1) := (blk_cell BK118.out 3).trans rfl
                          have hcz77_4 : w60.cell? ⟨gb118, 4, none⟩ = some (.bool x119004_1) := (blk_cell BK118.out 4).trans rfl
                          have hfz77_0 := blk_frozen BK118.out 0
                          have hfz77_1 := blk_frozen BK118.out 1
                          have hfz77_2 := blk_frozen BK118.out 2
                          have hfz77_3 := blk_frozen BK118.out 3
                          have hfz77_4 := blk_frozen BK118.out 4
                          try go_wp2_with (first | ((with_reducible refine gate_callee (f := 38) rfl ?_); refine goesL_ (some 59) rfl rfl Try.func38 (by kernel_rfl) rfl #[.agg #[.int .i64 t121, .int .i64 t122, .slice Ao43 t123.length co43, .int .i64 t126, .bool t127], .int .i64 0, .int .i64 (t133.length : Int)] rfl (by (try simp only [List.map_toArray, List.map_cons, List.map_nil]); first | done | rfl | (simp only [List.length_drop, List.length_take]; rfl)) ?_; (with_reducible refine (zone_Read.calls t121 t122 _ _ t123 t126 t127 0 (t133.length : Int) t140 t143 _ ?side1 ?side2 A23.out).mono ?_); (case side1 => refine (Kd.R_reads' (e := 5) (base := w.heap.size) (ok := fun k_ => True) (n := t123.length) (c := co43) ?_).2.2; exact (by (with_reducible repeat (first | apply Kd.R_alloc | apply Kd.R_drewN | apply Kd.R_drew)); exact (Kd.R_mono (Kd.R_mono (Kd.R_far (p := ⟨gb118, 4, none⟩) (Kd.R_far (p := ⟨gb118, 3, none⟩) (Kd.R_far (p := ⟨gb118, 2, none⟩) (Kd.R_far (p := ⟨gb118, 1, none⟩) (Kd.R_far (p := ⟨gb118, 0, none⟩) (Kd.R_far (p := ⟨gb117, 4, none⟩) (Kd.R_far (p := ⟨gb117, 3, none⟩) (Kd.R_far (p := ⟨gb117, 2, none⟩) (Kd.R_far (p := ⟨gb117, 1, none⟩) (Kd.R_far (p := ⟨gb117, 0, none⟩) (Kd.R_types (Kd.R_types HO125.out BK117.out (by decide)) BK118.out (by decide)) (fun _ hk => hk.1.2) (.int .i64 t121)) (fun _ hk => hk.1.2) (.int .i64 t122)) (fun _ hk => hk.1.2) (.slice Ao43 t123.length co43)) (fun _ hk => hk.1.2) (.int .i64 t126)) (fun _ hk => hk.1.2) (.bool t127)) (fun _ hk => hk.2) (.int .i64 t131)) (fun _ hk => hk.2) (.int .i64 t132)) (fun _ hk => hk.2) (.slice Ao55 t133.length co55)) (fun _ hk => hk.2) (.int .i64 t136)) (fun _ hk => hk.2) (.bool t137)) (fun _ h_ => h_.1)) (fun _ h_ => h_.1)))); (case side2 => exact (Kd.R_reads' HO125.out).2.1); rintro e w78 ⟨v141, rfl, ho0, hb⟩; refine ⟨_, rfl, ?_⟩; have n0_ := Aside0.mk (Kd.R_elder' (by (with_reducible repeat (first | apply Kd.R_alloc | apply Kd.R_drewN | apply Kd.R_drew)); exact (Kd.R_mono (Kd.R_mono (Kd.R_far (p := ⟨gb118, 4, none⟩) (Kd.R_far (p := ⟨gb118, 3, none⟩) (Kd.R_far (p := ⟨gb118, 2, none⟩) (Kd.R_far (p := ⟨gb118, 1, none⟩) (Kd.R_far (p := ⟨gb118, 0, none⟩) (Kd.R_far (p := ⟨gb117, 4, none⟩) (Kd.R_far (p := ⟨gb117, 3, none⟩) (Kd.R_far (p := ⟨gb117, 2, none⟩) (Kd.R_far (p := ⟨gb117, 1, none⟩) (Kd.R_far (p := ⟨gb117, 0, none⟩) (Kd.R_types (Kd.R_types HO125.out BK117.out (by decide)) BK118.out (by decide)) (fun _ hk => hk.1.2) (.int .i64 t121)) (fun _ hk => hk.1.2) (.int .i64 t122)) (fun _ hk => hk.1.2) (.slice Ao43 t123.length co43)) (fun _ hk => hk.1.2) (.int .i64 t126)) (fun _ hk => hk.1.2) (.bool t127)) (fun _ hk => hk.2) (.int .i64 t131)) (fun _ hk => hk.2) (.int .i64 t132)) (fun _ hk => hk.2) (.slice Ao55 t133.length co55)) (fun _ hk => hk.2) (.int .i64 t136)) (fun _ hk => hk.2) (.bool t137)) (fun _ h_ => h_.1)) (fun _ h_ => h_.1))) (Kd.R_base ho0) hb); have n1_ := Aside0.mk (Kd.R_below (by (with_reducible repeat (first | apply Kd.R_alloc | apply Kd.R_drewN | apply Kd.R_drew)); exact (Kd.R_mono (Kd.R_mono (Kd.R_far (p := ⟨gb118, 4, none⟩) (Kd.R_far (p := ⟨gb118, 3, none⟩) (Kd.R_far (p := ⟨gb118, 2, none⟩) (Kd.R_far (p := ⟨gb118, 1, none⟩) (Kd.R_far (p := ⟨gb118, 0, none⟩) (Kd.R_far (p := ⟨gb117, 4, none⟩) (Kd.R_far (p := ⟨gb117, 3, none⟩) (Kd.R_far (p := ⟨gb117, 2, none⟩) (Kd.R_far (p := ⟨gb117, 1, none⟩) (Kd.R_far (p := ⟨gb117, 0, none⟩) (Kd.R_types (Kd.R_types HO135.out BK117.out (by decide)) BK118.out (by decide)) (fun _ hk => hk.1.2) (.int .i64 t121)) (fun _ hk => hk.1.2) (.int .i64 t122)) (fun _ hk => hk.1.2) (.slice Ao43 t123.length co43)) (fun _ hk => hk.1.2) (.int .i64 t126)) (fun _ hk => hk.1.2) (.bool t127)) (fun _ hk => hk.2) (.int .i64 t131)) (fun _ hk => hk.2) (.int .i64 t132)) (fun _ hk => hk.2) (.slice Ao55 t133.length co55)) (fun _ hk => hk.2) (.int .i64 t136)) (fun _ hk => hk.2) (.bool t137)) (fun _ h_ => h_.1)) (fun _ h_ => h_.1))) hb); have n2_ := Aside0.mk (Kd.R_lower (Kd.R_new' ho0 (Kd.R_lt (by (with_reducible repeat (first | apply Kd.R_alloc | apply Kd.R_drewN | apply Kd.R_drew)); exact (Kd.R_mono (Kd.R_mono (Kd.R_far (p := ⟨gb118, 4, none⟩) (Kd.R_far (p := ⟨gb118, 3, none⟩) (Kd.R_far (p := ⟨gb118, 2, none⟩) (Kd.R_far (p := ⟨gb118, 1, none⟩) (Kd.R_far (p := ⟨gb118, 0, none⟩) (Kd.R_far (p := ⟨gb117, 4, none⟩) (Kd.R_far (p := ⟨gb117, 3, none⟩) (Kd.R_far (p := ⟨gb117, 2, none⟩) (Kd.R_far (p := ⟨gb117, 1, none⟩) (Kd.R_far (p := ⟨gb117, 0, none⟩) (Kd.R_types (Kd.R_types HO125.out BK117.out (by decide)) BK118.out (by decide)) (fun _ hk => hk.1.2) (.int .i64 t121)) (fun _ hk => hk.1.2) (.int .i64 t122)) (fun _ hk => hk.1.2) (.slice Ao43 t123.length co43)) (fun _ hk => hk.1.2) (.int .i64 t126)) (fun _ hk => hk.1.2) (.bool t127)) (fun _ hk => hk.2) (.int .i64 t131)) (fun _ hk => hk.2) (.int .i64 t132)) (fun _ hk => hk.2) (.slice Ao55 t133.length co55)) (fun _ hk => hk.2) (.int .i64 t136)) (fun _ hk => hk.2) (.bool t137)) (fun _ h_ => h_.1)) (fun _ h_ => h_.1))))) (below_size (by repeat (first | (with_reducible first | exact HB.out | apply below_alloc | apply pw_below_drewN | apply below_drew1 | refine below_set ?_ GE117.out | refine below_set ?_ GE118.out | refine below_set ?_ GE129.out | refine below_set ?_ GE139.out) | exact HB.out)))); have n3_ := Aside0.mk (blk_below (g := gb117) (o := .cells #[.int .i64 t121, .int .i64 t122, .slice Ao43 t123.length co43, .int .i64 t126, .bool t127] 54 (0, 0)) (by (with_reducible repeat (first | refine blk_drewN ?_ _ | refine blk_drew ?_ | refine blk_alloc ?_ _)); refine blk_far ?_ NB117_118.out _; (with_reducible repeat (first | refine blk_drewN ?_ _ | refine blk_drew ?_ | refine blk_alloc ?_ _)); refine blk_far ?_ NB117_118.out _; (with_reducible repeat (first | refine blk_drewN ?_ _ | refine blk_drew ?_ | refine blk_alloc ?_ _)); refine blk_far ?_ NB117_118.out _; (with_reducible repeat (first | refine blk_drewN ?_ _ | refine blk_drew ?_ | refine blk_alloc ?_ _)); refine blk_far ?_ NB117_118.out _; (with_reducible repeat (first | refine blk_drewN ?_ _ | refine blk_drew ?_ | refine blk_alloc ?_ _)); refine blk_far ?_ NB117_118.out _; (with_reducible repeat (first | refine blk_drewN ?_ _ | refine blk_drew ?_ | refine blk_alloc ?_ _)); refine blk_put (cs := #[.int .i64 t121, .int .i64 t122, .slice Ao43 t123.length co43, .int .i64 t126, .bool x118004_1]) ?_ 4 _ rfl; (with_reducible repeat (first | refine blk_drewN ?_ _ | refine blk_drew ?_ | refine blk_alloc ?_ _)); refine blk_put (cs := #[.int .i64 t121, .int .i64 t122, .slice Ao43 t123.length co43, .int .i64 x118003_1, .bool x118004_1]) ?_ 3 _ rfl; (with_reducible repeat (first | refine blk_drewN ?_ _ | refine blk_drew ?_ | refine blk_alloc ?_ _)); refine blk_put (cs := #[.int .i64 t121, .int .i64 t122, .slice Ao36 x118002_1.length co36, .int .i64 x118003_1, .bool x118004_1]) ?_ 2 _ rfl; (with_reducible repeat (first | refine blk_drewN ?_ _ | refine blk_drew ?_ | refine blk_alloc ?_ _)); refine blk_put (cs := #[.int .i64 t121, .int .i64 x118001_1, .slice Ao36 x118002_1.length co36, .int .i64 x118003_1, .bool x118004_1]) ?_ 1 _ rfl; (with_reducible repeat (first | refine blk_drewN ?_ _ | refine blk_drew ?_ | refine blk_alloc ?_ _)); refine blk_put (cs := #[.int .i64 x118000_1, .int .i64 x118001_1, .slice Ao36 x118002_1.length co36, .int .i64 x118003_1, .bool x118004_1]) ?_ 0 _ rfl; (with_reducible repeat (first | refine blk_drewN ?_ _ | refine blk_drew ?_ | refine blk_alloc ?_ _)); exact BK117.out) hb); have n4_ := Aside0.mk (blk_below (g := gb118) (o := .cells #[.int .i64 t131, .int .i64 t132, .slice Ao55 t133.length co55, .int .i64 t136, .bool t137] 80 (0, 0)) (by (with_reducible repeat (first | refine blk_drewN ?_ _ | refine blk_drew ?_ | refine blk_alloc ?_ _)); refine blk_put (cs := #[.int .i64 t131, .int .i64 t132, .slice Ao55 t133.length co55, .int .i64 t136, .bool x119004_1]) ?_ 4 _ rfl; (with_reducible repeat (first | refine blk_drewN ?_ _ | refine blk_drew ?_ | refine blk_alloc ?_ _)); refine blk_put (cs := #[.int .i64 t131, .int .i64 t132, .slice Ao55 t133.length co55, .int .i64 x119003_1, .bool x119004_1]) ?_ 3 _ rfl; (with_reducible repeat (first | refine blk_drewN ?_ _ | refine blk_drew ?_ | refine blk_alloc ?_ _)); refine blk_put (cs := #[.int .i64 t131, .int .i64 t132, .slice Ao47 x119002_1.length co47, .int .i64 x119003_1, .bool x119004_1]) ?_ 2 _ rfl; (with_reducible repeat (first | refine blk_drewN ?_ _ | refine blk_drew ?_ | refine blk_alloc ?_ _)); refine blk_put (cs := #[.int .i64 t131, .int .i64 x119001_1, .slice Ao47 x119002_1.length co47, .int .i64 x119003_1, .bool x119004_1]) ?_ 1 _ rfl; (with_reducible repeat (first | refine blk_drewN ?_ _ | refine blk_drew ?_ | refine blk_alloc ?_ _)); refine blk_put (cs := #[.int .i64 x119000_1, .int .i64 x119001_1, .slice Ao47 x119002_1.length co47, .int .i64 x119003_1, .bool x119004_1]) ?_ 0 _ rfl; (with_reducible repeat (first | refine blk_drewN ?_ _ | refine blk_drew ?_ | refine blk_alloc ?_ _)); refine blk_far ?_ NB118_117.out _; (with_reducible repeat (first | refine blk_drewN ?_ _ | refine blk_drew ?_ | refine blk_alloc ?_ _)); refine blk_far ?_ NB118_117.out _; (with_reducible repeat (first | refine blk_drewN ?_ _ | refine blk_drew ?_ | refine blk_alloc ?_ _)); refine blk_far ?_ NB118_117.out _; (with_reducible repeat (first | refine blk_drewN ?_ _ | refine blk_drew ?_ | refine blk_alloc ?_ _)); refine blk_far ?_ NB118_117.out _; (with_reducible repeat (first | refine blk_drewN ?_ _ | refine blk_drew ?_ | refine blk_alloc ?_ _)); refine blk_far ?_ NB118_117.out _; (with_reducible repeat (first | refine blk_drewN ?_ _ | refine blk_drew ?_ | refine blk_alloc ?_ _)); exact BK118.out) hb); have n5_ := Aside0.mk (blk_below (g := gb129) (o := .cells #[.int .i64 t121, .int .i64 t122, .slice Ao43 t123.length co43, .int .i64 t126, .bool t127] 54 (0, 0)) (by (with_reducible repeat (first | refine blk_drewN ?_ _ | refine blk_drew ?_ | refine blk_alloc ?_ _)); refine blk_far ?_ NB129_118.out _; (with_reducible repeat (first | refine blk_drewN ?_ _ | refine blk_drew ?_ | refine blk_alloc ?_ _)); refine blk_far ?_ NB129_118.out _; (with_reducible repeat (first | refine blk_drewN ?_ _ | refine blk_drew ?_ | refine blk_alloc ?_ _)); refine blk_far ?_ NB129_118.out _; (with_reducible repeat (first | refine blk_drewN ?_ _ | refine blk_drew ?_ | refine blk_alloc ?_ _)); refine blk_far ?_ NB129_118.out _; (with_reducible repeat (first | refine blk_drewN ?_ _ | refine blk_drew ?_ | refine blk_alloc ?_ _)); refine blk_far ?_ NB129_118.out _; (with_reducible repeat (first | refine blk_drewN ?_ _ | refine blk_drew ?_ | refine blk_alloc ?_ _)); refine blk_far ?_ NB129_117.out _; (with_reducible repeat (first | refine blk_drewN ?_ _ | refine blk_drew ?_ | refine blk_alloc ?_ _)); refine blk_far ?_ NB129_117.out _; (with_reducible repeat (first | refine blk_drewN ?_ _ | refine blk_drew ?_ | refine blk_alloc ?_ _)); refine blk_far ?_ NB129_117.out _; (with_reducible repeat (first | refine blk_drewN ?_ _ | refine blk_drew ?_ | refine blk_alloc ?_ _)); refine blk_far ?_ NB129_117.out _; (with_reducible repeat (first | refine blk_drewN ?_ _ | refine blk_drew ?_ | refine blk_alloc ?_ _)); refine blk_far ?_ NB129_117.out _; (with_reducible repeat (first | refine blk_drewN ?_ _ | refine blk_drew ?_ | refine blk_alloc ?_ _)); exact BK129.out) hb); have n6_ := Aside0.mk (blk_below (g := gb139) (o := .cells #[.int .i64 t131, .int .i64 t132, .slice Ao55 t133.length co55, .int .i64 t136, .bool t137] 80 (0, 0)) (by (with_reducible repeat (first | refine blk_drewN ?_ _ | refine blk_drew ?_ | refine blk_alloc ?_ _)); refine blk_far ?_ NB139_118.out _; (with_reducible repeat (first | refine blk_drewN ?_ _ | refine blk_drew ?_ | refine blk_alloc ?_ _)); refine blk_far ?_ NB139_118.out _; (with_reducible repeat (first | refine blk_drewN ?_ _ | refine blk_drew ?_ | refine blk_alloc ?_ _)); refine blk_far ?_ NB139_118.out _; (with_reducible repeat (first | refine blk_drewN ?_ _ | refine blk_drew ?_ | refine blk_alloc ?_ _)); refine blk_far ?_ NB139_118.out _; (with_reducible repeat (first | refine blk_drewN ?_ _ | refine blk_drew ?_ | refine blk_alloc ?_ _)); refine blk_far ?_ NB139_118.out _; (with_reducible repeat (first | refine blk_drewN ?_ _ | refine blk_drew ?_ | refine blk_alloc ?_ _)); refine blk_far ?_ NB139_117.out _; (with_reducible repeat (first | refine blk_drewN ?_ _ | refine blk_drew ?_ | refine blk_alloc ?_ _)); refine blk_far ?_ NB139_117.out _; (with_reducible repeat (first | refine blk_drewN ?_ _ | refine blk_drew ?_ | refine blk_alloc ?_ _)); refine blk_far ?_ NB139_117.out _; (with_reducible repeat (first | refine blk_drewN ?_ _ | refine blk_drew ?_ | refine blk_alloc ?_ _)); refine blk_far ?_ NB139_117.out _; (with_reducible repeat (first | refine blk_drewN ?_ _ | refine blk_drew ?_ | refine blk_alloc ?_ _)); refine blk_far ?_ NB139_117.out _; (with_reducible repeat (first | refine blk_drewN ?_ _ | refine blk_drew ?_ | refine blk_alloc ?_ _)); exact BK139.out) hb); have n7_ := Aside0.mk (below_step (by repeat (first | (with_reducible first | exact HB.out | apply below_alloc | apply pw_below_drewN | apply below_drew1 | refine below_set ?_ GE117.out | refine below_set ?_ GE118.out | refine below_set ?_ GE129.out | refine below_set ?_ GE139.out) | exact HB.out)) hb); clear HO125; clear HO135; clear BK117; clear BK118; clear BK129; clear BK139; clear HB; have HO125 := n0_; have HO135 := n1_; have HO142 := n2_; have BK117 := n3_; have BK118 := n4_; have BK129 := n5_; have BK139 := n6_; have HB := n7_; clear n0_ n1_ n2_ n3_ n4_ n5_ n6_ n7_; (try clear hb); (try clear hb2); (try clear hk); (try clear hi); (try clear ho0); have hcz79_0 : w78.cell? ⟨gb118, 0, none⟩ = some (.int .i64 t131) := (blk_cell BK118.out 0).trans rfl; have hcz79_1 : w78.cell? ⟨gb118, 1, none⟩ = some (.int .i64 t132) := (blk_cell BK118.out 1).trans rfl; have hcz79_2 : w78.cell? ⟨gb118, 2, none⟩ = some (.slice Ao55 t133.length co55) := (blk_cell BK118.out 2).trans rfl; have hcz79_3 : w78.cell? ⟨gb118, 3, none⟩ = some (.int .i64 t136) := (blk_cell BK118.out 3).trans rfl; have hcz79_4 : w78.cell? ⟨gb118, 4, none⟩ = some (.bool t137) := (blk_cell BK118.out 4).trans rfl; have hfz79_0 := blk_frozen BK118.out 0; have hfz79_1 := blk_frozen BK118.out 1; have hfz79_2 := blk_frozen BK118.out 2; have hfz79_3 := blk_frozen BK118.out 3; have hfz79_4 := blk_frozen BK118.out 4) | ((with_reducible refine gate_callee (f := 51) rfl ?_); refine goesL_ (some 67) rfl rfl Try.func51 (by kernel_rfl) rfl #[.agg #[.int .i64 t131, .int .i64 t132, .slice Ao55 t133.length co55, .int .i64 t136, .bool t137], .int .i64 0, .int .i64 (t133.length : Int)] rfl (by (try simp only [List.map_toArray, List.map_cons, List.map_nil]); first | done | rfl | (simp only [List.length_drop, List.length_take]; rfl)) ?_; (with_reducible refine (revetmentref04_Read.calls k1 t131 t132 _ _ t133 t136 t137 0 (t133.length : Int) t144 t145 _ ?side1 ?side2 A24.out).mono ?_); (case side1 => repeat (first | exact (Kd.R_reads' HO135.out).2.2 | (with_reducible refine Kd.C_alloc ?_ _) | (with_reducible refine Kd.C_drewN ?_ _) | (with_reducible refine Kd.C_drew ?_))); (case side2 => exact (Kd.R_reads' HO135.out).2.1); rintro e w80 ⟨rfl, hb⟩; refine ⟨_, rfl, ?_⟩; have n0_ := Aside0.mk (Kd.R_below (by (with_reducible repeat (first | apply Kd.R_alloc | apply Kd.R_drewN | apply Kd.R_drew)); exact HO125.out) hb); have n1_ := Aside0.mk (Kd.R_below (by (with_reducible repeat (first | apply Kd.R_alloc | apply Kd.R_drewN | apply Kd.R_drew)); exact HO135.out) hb); have n2_ := Aside0.mk (Kd.R_below (by (with_reducible repeat (first | apply Kd.R_alloc | apply Kd.R_drewN | apply Kd.R_drew)); exact HO142.out) hb); have n3_ := Aside0.mk (blk_below (g := gb117) (o := .cells #[.int .i64 t121, .int .i64 t122, .slice Ao43 t123.length co43, .int .i64 t126, .bool t127] 54 (0, 0)) (by (with_reducible repeat (first | refine blk_drewN ?_ _ | refine blk_drew ?_ | refine blk_alloc ?_ _)); exact BK117.out) hb); have n4_ := Aside0.mk (blk_below (g := gb118) (o := .cells #[.int .i64 t131, .int .i64 t132, .slice Ao55 t133.length co55, .int .i64 t136, .bool t137] 80 (0, 0)) (by (with_reducible repeat (first | refine blk_drewN ?_ _ | refine blk_drew ?_ | refine blk_alloc ?_ _)); exact BK118.out) hb); have n5_ := Aside0.mk (blk_below (g := gb129) (o := .cells #[.int .i64 t121, .int .i64 t122, .slice Ao43 t123.length co43, .int .i64 t126, .bool t127] 54 (0, 0)) (by (with_reducible repeat (first | refine blk_drewN ?_ _ | refine blk_drew ?_ | refine blk_alloc ?_ _)); exact BK129.out) hb); have n6_ := Aside0.mk (blk_below (g := gb139) (o := .cells #[.int .i64 t131, .int .i64 t132, .slice Ao55 t133.length co55, .int .i64 t136, .bool t137] 80 (0, 0)) (by (with_reducible repeat (first | refine blk_drewN ?_ _ | refine blk_drew ?_ | refine blk_alloc ?_ _)); exact BK139.out) hb); have n7_ := Aside0.mk (below_step (by repeat (first | (with_reducible first | exact HB.out | apply below_alloc | apply pw_below_drewN | apply below_drew1 | refine below_set ?_ GE117.out | refine below_set ?_ GE118.out | refine below_set ?_ GE129.out | refine below_set ?_ GE139.out) | exact HB.out)) hb); clear HO125; clear HO135; clear HO142; clear BK117; clear BK118; clear BK129; clear BK139; clear HB; have HO125 := n0_; have HO135 := n1_; have HO142 := n2_; have BK117 := n3_; have BK118 := n4_; have BK129 := n5_; have BK139 := n6_; have HB := n7_; clear n0_ n1_ n2_ n3_ n4_ n5_ n6_ n7_; (try clear hb); (try clear hb2); (try clear hk); (try clear hi); have hcz81_0 : w80.cell? ⟨gb117, 0, none⟩ = some (.int .i64 t121) := (blk_cell BK117.out 0).trans rfl; have hcz81_1 : w80.cell? ⟨gb117, 1, none⟩ = some (.int .i64 t122) := (blk_cell BK117.out 1).trans rfl; have hcz81_2 : w80.cell? ⟨gb117, 2, none⟩ = some (.slice Ao43 t123.length co43) := (blk_cell BK117.out 2).trans rfl; have hcz81_3 : w80.cell? ⟨gb117, 3, none⟩ = some (.int .i64 t126) := (blk_cell BK117.out 3).trans rfl; have hcz81_4 : w80.cell? ⟨gb117, 4, none⟩ = some (.bool t127) := (blk_cell BK117.out 4).trans rfl; have hfz81_0 := blk_frozen BK117.out 0; have hfz81_1 := blk_frozen BK117.out 1; have hfz81_2 := blk_frozen BK117.out 2; have hfz81_3 := blk_frozen BK117.out 3; have hfz81_4 := blk_frozen BK117.out 4) | ((with_reducible refine gate_callee (f := 37) rfl ?_); refine goesL_ (some 71) rfl rfl Try.func37 (by kernel_rfl) rfl #[.agg #[.int .i64 t121, .int .i64 t122, .slice Ao43 t123.length co43, .int .i64 t126, .bool t127]] rfl (by (try simp only [List.map_toArray, List.map_cons, List.map_nil]); first | done | rfl | (simp only [List.length_drop, List.length_take]; rfl)) ?_; (with_reducible refine (zone_Look.calls t121 t122 _ _ t123 t126 t127 t146 t147 t148 _ ?side1 ?side2 A25.out).mono ?_); (case side1 => repeat (first | exact (Kd.R_reads' HO125.out).2.2 | (with_reducible refine Kd.C_alloc ?_ _) | (with_reducible refine Kd.C_drewN ?_ _) | (with_reducible refine Kd.C_drew ?_))); (case side2 => exact (Kd.R_reads' HO125.out).2.1); rintro e w82 ⟨rfl, hb⟩; refine ⟨_, rfl, ?_⟩; have n0_ := Aside0.mk (Kd.R_below (by (with_reducible repeat (first | apply Kd.R_alloc | apply Kd.R_drewN | apply Kd.R_drew)); exact HO125.out) hb); have n1_ := Aside0.mk (Kd.R_below (by (with_reducible repeat (first | apply Kd.R_alloc | apply Kd.R_drewN | apply Kd.R_drew)); exact HO135.out) hb); have n2_ := Aside0.mk (Kd.R_below (by (with_reducible repeat (first | apply Kd.R_alloc | apply Kd.R_drewN | apply Kd.R_drew)); exact HO142.out) hb); have n3_ := Aside0.mk (blk_below (g := gb117) (o := .cells #[.int .i64 t121, .int .i64 t122, .slice Ao43 t123.length co43, .int .i64 t126, .bool t127] 54 (0, 0)) (by (with_reducible repeat (first | refine blk_drewN ?_ _ | refine blk_drew ?_ | refine blk_alloc ?_ _)); exact BK117.out) hb); have n4_ := Aside0.mk (blk_below (g := gb118) (o := .cells #[.int .i64 t131, .int .i64 t132, .slice Ao55 t133.length co55, .int .i64 t136, .bool t137] 80 (0, 0)) (by (with_reducible repeat (first | refine blk_drewN ?_ _ | refine blk_drew ?_ | refine blk_alloc ?_ _)); exact BK118.out) hb); have n5_ := Aside0.mk (blk_below (g := gb129) (o := .cells #[.int .i64 t121, .int .i64 t122, .slice Ao43 t123.length co43, .int .i64 t126, .bool t127] 54 (0, 0)) (by (with_reducible repeat (first | refine blk_drewN ?_ _ | refine blk_drew ?_ | refine blk_alloc ?_ _)); exact BK129.out) hb); have n6_ := Aside0.mk (blk_below (g := gb139) (o := .cells #[.int .i64 t131, .int .i64 t132, .slice Ao55 t133.length co55, .int .i64 t136, .bool t137] 80 (0, 0)) (by (with_reducible repeat (first | refine blk_drewN ?_ _ | refine blk_drew ?_ | refine blk_alloc ?_ _)); exact BK139.out) hb); have n7_ := Aside0.mk (below_step (by repeat (first | (with_reducible first | exact HB.out | apply below_alloc | apply pw_below_drewN | apply below_drew1 | refine below_set ?_ GE117.out | refine below_set ?_ GE118.out | refine below_set ?_ GE129.out | refine below_set ?_ GE139.out) | exact HB.out)) hb); clear HO125; clear HO135; clear HO142; clear BK117; clear BK118; clear BK129; clear BK139; clear HB; have HO125 := n0_; have HO135 := n1_; have HO142 := n2_; have BK117 := n3_; have BK118 := n4_; have BK129 := n5_; have BK139 := n6_; have HB := n7_; clear n0_ n1_ n2_ n3_ n4_ n5_ n6_ n7_; (try clear hb); (try clear hb2); (try clear hk); (try clear hi)) | ((with_reducible refine gate_dst (N := 18) rfl ?_); (try (refine gate_guard (by rfl) ?_; dsimp only)); refine box_event ?hg (N := 18) ?hd (cs := #[.int .i64 0, .int .i64 0, .bool false]) (t := 61) ?hr ?_; (case hd => rfl); (case hg => rfl); (case hr => first | (go_simp; done) | (go_simp; rfl)); intro gb149 hg w83 hbox hb; have n0_ := Aside0.mk (Kd.R_below (by (with_reducible repeat (first | apply Kd.R_alloc | apply Kd.R_drewN | apply Kd.R_drew)); exact HO125.out) hb); have n1_ := Aside0.mk (Kd.R_below (by (with_reducible repeat (first | apply Kd.R_alloc | apply Kd.R_drewN | apply Kd.R_drew)); exact HO135.out) hb); have n2_ := Aside0.mk (Kd.R_below (by (with_reducible repeat (first | apply Kd.R_alloc | apply Kd.R_drewN | apply Kd.R_drew)); exact HO142.out) hb); have n3_ := Aside0.mk (blk_below (g := gb117) (o := .cells #[.int .i64 t121, .int .i64 t122, .slice Ao43 t123.length co43, .int .i64 t126, .bool t127] 54 (0, 0)) (by (with_reducible repeat (first | refine blk_drewN ?_ _ | refine blk_drew ?_ | refine blk_alloc ?_ _)); exact BK117.out) hb); have n4_ := Aside0.mk (blk_below (g := gb118) (o := .cells #[.int .i64 t131, .int .i64 t132, .slice Ao55 t133.length co55, .int .i64 t136, .bool t137] 80 (0, 0)) (by (with_reducible repeat (first | refine blk_drewN ?_ _ | refine blk_drew ?_ | refine blk_alloc ?_ _)); exact BK118.out) hb); have n5_ := Aside0.mk (blk_below (g := gb129) (o := .cells #[.int .i64 t121, .int .i64 t122, .slice Ao43 t123.length co43, .int .i64 t126, .bool t127] 54 (0, 0)) (by (with_reducible repeat (first | refine blk_drewN ?_ _ | refine blk_drew ?_ | refine blk_alloc ?_ _)); exact BK129.out) hb); have n6_ := Aside0.mk (blk_below (g := gb139) (o := .cells #[.int .i64 t131, .int .i64 t132, .slice Ao55 t133.length co55, .int .i64 t136, .bool t137] 80 (0, 0)) (by (with_reducible repeat (first | refine blk_drewN ?_ _ | refine blk_drew ?_ | refine blk_alloc ?_ _)); exact BK139.out) hb); have n7_ := Aside0.mk (below_step (by repeat (first | (with_reducible first | exact HB.out | apply below_alloc | apply pw_below_drewN | apply below_drew1 | refine below_set ?_ GE117.out | refine below_set ?_ GE118.out | refine below_set ?_ GE129.out | refine below_set ?_ GE139.out) | exact HB.out)) hb); have n8_ := Aside0.mk (hbox); have n9_ := Aside0.mk ((by rw [hg]; exact (below_size (by repeat (first | (with_reducible first | exact HB.out | apply below_alloc | apply pw_below_drewN | apply below_drew1 | refine below_set ?_ GE117.out | refine below_set ?_ GE118.out | refine below_set ?_ GE129.out | refine below_set ?_ GE139.out) | exact HB.out))) : w.heap.size ≤ gb149)); have n10_ := Aside0.mk ((by rw [hg]; exact (below_size (by repeat (first | (with_reducible first | exact HB.out | apply below_alloc | apply pw_below_drewN | apply below_drew1 | refine below_set ?_ GE117.out | refine below_set ?_ GE118.out | refine below_set ?_ GE129.out | refine below_set ?_ GE139.out) | exact HB.out))) : w.heap.size ≤ gb149)); have n11_ := Aside0.mk ((by rw [hg]; exact Nat.ne_of_lt (blk_lt (g := gb117) (o := .cells #[.int .i64 t121, .int .i64 t122, .slice Ao43 t123.length co43, .int .i64 t126, .bool t127] 54 (0, 0)) (by (with_reducible repeat (first | refine blk_drewN ?_ _ | refine blk_drew ?_ | refine blk_alloc ?_ _)); exact BK117.out)) : gb117 ≠ gb149)); have n12_ := Aside0.mk ((by rw [hg]; exact Nat.ne_of_gt (blk_lt (g := gb117) (o := .cells #[.int .i64 t121, .int .i64 t122, .slice Ao43 t123.length co43, .int .i64 t126, .bool t127] 54 (0, 0)) (by (with_reducible repeat (first | refine blk_drewN ?_ _ | refine blk_drew ?_ | refine blk_alloc ?_ _)); exact BK117.out)) : gb149 ≠ gb117)); have n13_ := Aside0.mk ((by rw [hg]; exact Nat.ne_of_lt (blk_lt (g := gb118) (o := .cells #[.int .i64 t131, .int .i64 t132, .slice Ao55 t133.length co55, .int .i64 t136, .bool t137] 80 (0, 0)) (by (with_reducible repeat (first | refine blk_drewN ?_ _ | refine blk_drew ?_ | refine blk_alloc ?_ _)); exact BK118.out)) : gb118 ≠ gb149)); have n14_ := Aside0.mk ((by rw [hg]; exact Nat.ne_of_gt (blk_lt (g := gb118) (o := .cells #[.int .i64 t131, .int .i64 t132, .slice Ao55 t133.length co55, .int .i64 t136, .bool t137] 80 (0, 0)) (by (with_reducible repeat (first | refine blk_drewN ?_ _ | refine blk_drew ?_ | refine blk_alloc ?_ _)); exact BK118.out)) : gb149 ≠ gb118)); have n15_ := Aside0.mk ((by rw [hg]; exact Nat.ne_of_lt (blk_lt (g := gb129) (o := .cells #[.int .i64 t121, .int .i64 t122, .slice Ao43 t123.length co43, .int .i64 t126, .bool t127] 54 (0, 0)) (by (with_reducible repeat (first | refine blk_drewN ?_ _ | refine blk_drew ?_ | refine blk_alloc ?_ _)); exact BK129.out)) : gb129 ≠ gb149)); have n16_ := Aside0.mk ((by rw [hg]; exact Nat.ne_of_gt (blk_lt (g := gb129) (o := .cells #[.int .i64 t121, .int .i64 t122, .slice Ao43 t123.length co43, .int .i64 t126, .bool t127] 54 (0, 0)) (by (with_reducible repeat (first | refine blk_drewN ?_ _ | refine blk_drew ?_ | refine blk_alloc ?_ _)); exact BK129.out)) : gb149 ≠ gb129)); have n17_ := Aside0.mk ((by rw [hg]; exact Nat.ne_of_lt (blk_lt (g := gb139) (o := .cells #[.int .i64 t131, .int .i64 t132, .slice Ao55 t133.length co55, .int .i64 t136, .bool t137] 80 (0, 0)) (by (with_reducible repeat (first | refine blk_drewN ?_ _ | refine blk_drew ?_ | refine blk_alloc ?_ _)); exact BK139.out)) : gb139 ≠ gb149)); have n18_ := Aside0.mk ((by rw [hg]; exact Nat.ne_of_gt (blk_lt (g := gb139) (o := .cells #[.int .i64 t131, .int .i64 t132, .slice Ao55 t133.length co55, .int .i64 t136, .bool t137] 80 (0, 0)) (by (with_reducible repeat (first | refine blk_drewN ?_ _ | refine blk_drew ?_ | refine blk_alloc ?_ _)); exact BK139.out)) : gb149 ≠ gb139)); clear HO125; clear HO135; clear HO142; clear BK117; clear BK118; clear BK129; clear BK139; clear HB; have HO125 := n0_; have HO135 := n1_; have HO142 := n2_; have BK117 := n3_; have BK118 := n4_; have BK129 := n5_; have BK139 := n6_; have HB := n7_; have BK149 := n8_; have GW149 := n9_; have GE149 := n10_; have NB117_149 := n11_; have NB149_117 := n12_; have NB118_149 := n13_; have NB149_118 := n14_; have NB129_149 := n15_; have NB149_129 := n16_; have NB139_149 := n17_; have NB149_139 := n18_; clear n0_ n1_ n2_ n3_ n4_ n5_ n6_ n7_ n8_ n9_ n10_ n11_ n12_ n13_ n14_ n15_ n16_ n17_ n18_; clear hb hbox hg; have hnb84 := NB149_117.out; have hnc84 := NB117_149.out; have hnb85 := NB149_118.out; have hnc85 := NB118_149.out; have hnb86 := NB149_129.out; have hnc86 := NB129_149.out; have hnb87 := NB149_139.out; have hnc87 := NB139_149.out; have hcz88_0 : w83.cell? ⟨gb149, 0, none⟩ = some (.int .i64 0) := (blk_cell BK149.out 0).trans rfl; have hcz88_1 : w83.cell? ⟨gb149, 1, none⟩ = some (.int .i64 0) := (blk_cell BK149.out 1).trans rfl; have hcz88_2 : w83.cell? ⟨gb149, 2, none⟩ = some (.bool false) := (blk_cell BK149.out 2).trans rfl; have hfz88_0 := blk_frozen BK149.out 0; have hfz88_1 := blk_frozen BK149.out 1; have hfz88_2 := blk_frozen BK149.out 2))
                          have n0_ : Aside0 (Kd.R (Kd.int .u8) 5 (((w83.setCell ⟨gb149, 0, none⟩ (.int .i64 t146)).setCell ⟨gb149, 1, none⟩ (.int .i64 t147)).setCell ⟨gb149, 2, none⟩ (.bool t148)) w.heap.size (fun k_ => some k_ ≠ (v141 : Value).ownBlock) (.slice Ao43 t123.length co43) t123) := ⟨by (with_reducible repeat (first | apply Kd.R_alloc | apply Kd.R_drewN | apply Kd.R_drew)); exact Kd.R_mono (Kd.R_far (p := ⟨gb149, 2, none⟩) (Kd.R_far (p := ⟨gb149, 1, none⟩) (Kd.R_far (p := ⟨gb149, 0, none⟩) (Kd.R_types HO125.out BK149.out (by decide)) (fun _ hk => hk.2) (.int .i64 t146)) (fun _ hk => hk.2) (.int .i64 t147)) (fun _ hk => hk.2) (.bool t148)) (fun _ hk => hk.1.2)⟩
                          have n1_ : Aside0 (Kd.R Kd.string 9 (((w83.setCell ⟨gb149, 0, none⟩ (.int .i64 t146)).setCell ⟨gb149, 1, none⟩ (.int .i64 t147)).setCell ⟨gb149, 2, none⟩ (.bool t148)) w.heap.size (fun _ => True) (.slice Ao55 t133.length co55) t133) := ⟨by (with_reducible repeat (first | apply Kd.R_alloc | apply Kd.R_drewN | apply Kd.R_drew)); exact Kd.R_mono (Kd.R_far (p := ⟨gb149, 2, none⟩) (Kd.R_far (p := ⟨gb149, 1, none⟩) (Kd.R_far (p := ⟨gb149, 0, none⟩) (Kd.R_types HO135.out BK149.out (by decide)) (fun _ hk => hk.2) (.int .i64 t146)) (fun _ hk => hk.2) (.int .i64 t147)) (fun _ hk => hk.2) (.bool t148)) (fun _ hk => trivial)⟩
                          have n2_ : Aside0 (Kd.R (Kd.int .u8) 5 (((w83.setCell ⟨gb149, 0, none⟩ (.int .i64 t146)).setCell ⟨gb149, 1, none⟩ (.int .i64 t147)).setCell ⟨gb149, 2, none⟩ (.bool t148)) w.heap.size (fun k_ => some k_ ≠ (.slice Ao43 t123.length co43 : Value).ownBlock) v141 t140) := ⟨by (with_reducible repeat (first | apply Kd.R_alloc | apply Kd.R_drewN | apply Kd.R_drew)); exact Kd.R_mono (Kd.R_far (p := ⟨gb149, 2, none⟩) (Kd.R_far (p := ⟨gb149, 1, none⟩) (Kd.R_far (p := ⟨gb149, 0, none⟩) (Kd.R_types HO142.out BK149.out (by decide)) (fun _ hk => hk.2) (.int .i64 t146)) (fun _ hk => hk.2) (.int .i64 t147)) (fun _ hk => hk.2) (.bool t148)) (fun _ hk => hk.1.2)⟩
                          have n3_ : Aside0 ((((w83.setCell ⟨gb149, 0, none⟩ (.int .i64 t146)).setCell ⟨gb149, 1, none⟩ (.int .i64 t147)).setCell ⟨gb149, 2, none⟩ (.bool t148)).heap[gb117]? = some (.cells #[.int .i64 t121, .int .i64 t122, .slice Ao43 t123.length co43, .int .i64 t126, .bool t127] 54 (0, 0))) := ⟨by (with_reducible repeat (first | refine blk_drewN ?_ _ | refine blk_drew ?_ | refine blk_alloc ?_ _)); refine blk_far ?_ NB117_149.out _; (with_reducible repeat (first | refine blk_drewN ?_ _ | refine blk_drew ?_ | refine blk_alloc ?_ _)); refine blk_far ?_ NB117_149.out _; (with_reducible repeat (first | refine blk_drewN ?_ _ | refine blk_drew ?_ | refine blk_alloc ?_ _)); refine blk_far ?_ NB117_149.out _; (with_reducible repeat (first | refine blk_drewN ?_ _ | refine blk_drew ?_ | refine blk_alloc ?_ _)); exact BK117.out⟩
                          have n4_ : Aside0 ((((w83.setCell ⟨gb149, 0, none⟩ (.int .i64 t146)).setCell ⟨gb149, 1, none⟩ (.int .i64 t147)).setCell ⟨gb149, 2, none⟩ (.bool t148)).heap[gb118]? = some (.cells #[.int .i64 t131, .int .i64 t132, .slice Ao55 t133.length co55, .int .i64 t136, .bool t137] 80 (0, 0))) := ⟨by (with_reducible repeat (first | refine blk_drewN ?_ _ | refine blk_drew ?_ | refine blk_alloc ?_ _)); refine blk_far ?_ NB118_149.out _; (with_reducible repeat (first | refine blk_drewN ?_ _ | refine blk_drew ?_ | refine blk_alloc ?_ _)); refine blk_far ?_ NB118_149.out _; (with_reducible repeat (first | refine blk_drewN ?_ _ | refine blk_drew ?_ | refine blk_alloc ?_ _)); refine blk_far ?_ NB118_149.out _; (with_reducible repeat (first | refine blk_drewN ?_ _ | refine blk_drew ?_ | refine blk_alloc ?_ _)); exact BK118.out⟩
                          have n5_ : Aside0 ((((w83.setCell ⟨gb149, 0, none⟩ (.int .i64 t146)).setCell ⟨gb149, 1, none⟩ (.int .i64 t147)).setCell ⟨gb149, 2, none⟩ (.bool t148)).heap[gb129]? = some (.cells #[.int .i64 t121, .int .i64 t122, .slice Ao43 t123.length co43, .int .i64 t126, .bool t127] 54 (0, 0))) := ⟨by (with_reducible repeat (first | refine blk_drewN ?_ _ | refine blk_drew ?_ | refine blk_alloc ?_ _)); refine blk_far ?_ NB129_149.out _; (with_reducible repeat (first | refine blk_drewN ?_ _ | refine blk_drew ?_ | refine blk_alloc ?_ _)); refine blk_far ?_ NB129_149.out _; (with_reducible repeat (first | refine blk_drewN ?_ _ | refine blk_drew ?_ | refine blk_alloc ?_ _)); refine blk_far ?_ NB129_149.out _; (with_reducible repeat (first | refine blk_drewN ?_ _ | refine blk_drew ?_ | refine blk_alloc ?_ _)); exact BK129.out⟩
                          have n6_ : Aside0 ((((w83.setCell ⟨gb149, 0, none⟩ (.int .i64 t146)).setCell ⟨gb149, 1, none⟩ (.int .i64 t147)).setCell ⟨gb149, 2, none⟩ (.bool t148)).heap[gb139]? = some (.cells #[.int .i64 t131, .int .i64 t132, .slice Ao55 t133.length co55, .int .i64 t136, .bool t137] 80 (0, 0))) := ⟨by (with_reducible repeat (first | refine blk_drewN ?_ _ | refine blk_drew ?_ | refine blk_alloc ?_ _)); refine blk_far ?_ NB139_149.out _; (with_reducible repeat (first | refine blk_drewN ?_ _ | refine blk_drew ?_ | refine blk_alloc ?_ _)); refine blk_far ?_ NB139_149.out _; (with_reducible repeat (first | refine blk_drewN ?_ _ | refine blk_drew ?_ | refine blk_alloc ?_ _)); refine blk_far ?_ NB139_149.out _; (with_reducible repeat (first | refine blk_drewN ?_ _ | refine blk_drew ?_ | refine blk_alloc ?_ _)); exact BK139.out⟩
                          have n7_ : Aside0 ((((w83.setCell ⟨gb149, 0, none⟩ (.int .i64 t146)).setCell ⟨gb149, 1, none⟩ (.int .i64 t147)).setCell ⟨gb149, 2, none⟩ (.bool t148)).heap[gb149]? = some (.cells #[.int .i64 t146, .int .i64 t147, .bool t148] 61 (0, 0))) := ⟨by (with_reducible repeat (first | refine blk_drewN ?_ _ | refine blk_drew ?_ | refine blk_alloc ?_ _)); refine blk_put (cs := #[.int .i64 t146, .int .i64 t147, .bool false]) ?_ 2 _ rfl; (with_reducible repeat (first | refine blk_drewN ?_ _ | refine blk_drew ?_ | refine blk_alloc ?_ _)); refine blk_put (cs := #[.int .i64 t146, .int .i64 0, .bool false]) ?_ 1 _ rfl; (with_reducible repeat (first | refine blk_drewN ?_ _ | refine blk_drew ?_ | refine blk_alloc ?_ _)); refine blk_put (cs := #[.int .i64 0, .int .i64 0, .bool false]) ?_ 0 _ rfl; (with_reducible repeat (first | refine blk_drewN ?_ _ | refine blk_drew ?_ | refine blk_alloc ?_ _)); exact BK149.out⟩
                          have n8_ : Aside0 (Below w.heap.size w (((w83.setCell ⟨gb149, 0, none⟩ (.int .i64 t146)).setCell ⟨gb149, 1, none⟩ (.int .i64 t147)).setCell ⟨gb149, 2, none⟩ (.bool t148))) := ⟨by repeat (first | (with_reducible first | exact HB.out | apply below_alloc | apply pw_below_drewN | apply below_drew1 | refine below_set ?_ GE117.out | refine below_set ?_ GE118.out | refine below_set ?_ GE129.out | refine below_set ?_ GE139.out | refine below_set ?_ GE149.out) | exact HB.out)⟩
                          (try clear HO125)
                          (try clear HO135)
                          (try clear HO142)
                          (try clear BK117)
                          (try clear BK118)
                          (try clear BK129)
                          (try clear BK139)
                          (try clear BK149)
                          (try clear HB)
                          generalize (((w83.setCell ⟨gb149, 0, none⟩ (.int .i64 t146)).setCell ⟨gb149, 1, none⟩ (.int .i64 t147)).setCell ⟨gb149, 2, none⟩ (.bool t148)) = w89 at n0_ n1_ n2_ n3_ n4_ n5_ n6_ n7_ n8_ ⊢
                          have HO125 := n0_
                          have HO135 := n1_
                          have HO142 := n2_
                          have BK117 := n3_
                          have BK118 := n4_
                          have BK129 := n5_
                          have BK139 := n6_
                          have BK149 := n7_
                          have HB := n8_
                          clear n0_ n1_ n2_ n3_ n4_ n5_ n6_ n7_ n8_
                          have n0_ := Aside0.mk (Kd.R_drew HO125.out)
                          have n1_ := Aside0.mk (Kd.R_drew HO135.out)
                          have n2_ := Aside0.mk (Kd.R_drew HO142.out)
                          have n3_ := Aside0.mk (blk_drew BK117.out)
                          have n4_ := Aside0.mk (blk_drew BK118.out)
                          have n5_ := Aside0.mk (blk_drew BK129.out)
                          have n6_ := Aside0.mk (blk_drew BK139.out)
                          have n7_ := Aside0.mk (blk_drew BK149.out)
                          have n8_ := Aside0.mk (below_drew1 HB.out)
                          clear HO125
                          clear HO135
                          clear HO142
                          clear BK117
                          clear BK118
                          clear BK129
                          clear BK139
                          clear BK149
                          clear HB
                          have HO125 := n0_
                          have HO135 := n1_
                          have HO142 := n2_
                          have BK117 := n3_
                          have BK118 := n4_
                          have BK129 := n5_
                          have BK139 := n6_
                          have BK149 := n7_
                          have HB := n8_
                          clear n0_ n1_ n2_ n3_ n4_ n5_ n6_ n7_ n8_
                          refine start_ (n := 43) (S := fun w' => w'.cell? ⟨gb149, 0, none⟩ = some (.int .i64 t146) ∧ w'.cell? ⟨gb149, 1, none⟩ = some (.int .i64 t147) ∧ w'.cell? ⟨gb149, 2, none⟩ = some (.bool t148) ∧ w'.cell? ⟨gb118, 0, none⟩ = some (.int .i64 t131) ∧ w'.cell? ⟨gb118, 1, none⟩ = some (.int .i64 t132) ∧ w'.cell? ⟨gb118, 2, none⟩ = some (.slice Ao55 t133.length co55) ∧ w'.cell? ⟨gb118, 3, none⟩ = some (.int .i64 t136) ∧ w'.cell? ⟨gb118, 4, none⟩ = some (.bool t137) ∧ w'.cell? ⟨gb117, 0, none⟩ = some (.int .i64 t121) ∧ w'.cell? ⟨gb117, 1, none⟩ = some (.int .i64 t122) ∧ w'.cell? ⟨gb117, 2, none⟩ = some (.slice Ao43 t123.length co43) ∧ w'.cell? ⟨gb117, 3, none⟩ = some (.int .i64 t126) ∧ w'.cell? ⟨gb117, 4, none⟩ = some (.bool t127)) (ds := []) #[false, false, false, false, false, false, false, false, false, false, false, false, false, false, false, false, false, false, false, false, false, false, false, false, false, false, false, false, false, false, false, false, false, false, false, false, false, false, false, false, false, false, false] (by kernel_rfl) rfl rfl ⟨(blk_cell BK149.out 0).trans rfl, (blk_cell BK149.out 1).trans rfl, (blk_cell BK149.out 2).trans rfl, (blk_cell BK118.out 0).trans rfl, (blk_cell BK118.out 1).trans rfl, (blk_cell BK118.out 2).trans rfl, (blk_cell BK118.out 3).trans rfl, (blk_cell BK118.out 4).trans rfl, (blk_cell BK117.out 0).trans rfl, (blk_cell BK117.out 1).trans rfl, (blk_cell BK117.out 2).trans rfl, (blk_cell BK117.out 3).trans rfl, (blk_cell BK117.out 4).trans rfl⟩ (fun hHeld => ?_); refine with_tabW revetmentlaw04_ZonePlays.tab13 revetmentlaw04_ZonePlays.bits13 (fun HT_ HW_ => ?_)
                          generalize w89.drew = w90 at HO125 HO135 HO142 BK117 BK118 BK129 BK139 BK149 HB hHeld ⊢
                          refine pure_ (i := 0) (N := some 72) (v := ?_) (a' := ?_) #[true, false, false, false, false, false, false, false, false, false, false, false, false, false, false, false, false, false, false, false, false, false, false, false, false, false, false, false, false, false, false, false, false, false, false, false, false, false, false, false, false, false, false] rfl rfl (any_of HT_.out (by kernel_rfl)) (fun _ _ _ h => h) (Or.inl ⟨by rfl, ?_⟩) ?_ ?_
                          rotate_left
                          · intro w'
                            go_simp
                            with_reducible rfl
                          rotate_left
                          · simp only [Act.put, List.setIfInBounds_toArray, List.set_cons_zero, List.set_cons_succ, i64_w, i32_w]
                            rfl
                          refine pure_ (i := 1) (N := some 73) (v := ?_) (a' := ?_) #[true, true, false, false, false, false, false, false, false, false, false, false, false, false, false, false, false, false, false, false, false, false, false, false, false, false, false, false, false, false, false, false, false, false, false, false, false, false, false, false, false, false, false] rfl rfl (any_of HT_.out (by kernel_rfl)) (fun _ _ _ h => h) (Or.inl ⟨by rfl, ?_⟩) ?_ ?_
                          rotate_left
                          · intro w'
                            go_simp
                            with_reducible rfl
                          rotate_left
                          · simp only [Act.put, List.setIfInBounds_toArray, List.set_cons_zero, List.set_cons_succ, i64_w, i32_w]
                            rfl
                          refine pure_ (i := 2) (N := some 74) (v := ?_) (a' := ?_) #[true, true, true, false, false, false, false, false, false, false, false, false, false, false, false, false, false, false, false, false, false, false, false, false, false, false, false, false, false, false, false, false, false, false, false, false, false, false, false, false, false, false, false] rfl rfl (any_of HT_.out (by kernel_rfl)) (fun _ _ _ h => h) (Or.inl ⟨by rfl, ?_⟩) ?_ ?_
                          rotate_left
                          · intro w'
                            go_simp
                            with_reducible rfl
                          rotate_left
                          · simp only [Act.put, List.setIfInBounds_toArray, List.set_cons_zero, List.set_cons_succ, i64_w, i32_w]
                            rfl
                          refine pure_ (i := 3) (N := some 75) (v := ?_) (a' := ?_) #[true, true, true, true, false, false, false, false, false, false, false, false, false, false, false, false, false, false, false, false, false, false, false, false, false, false, false, false, false, false, false, false, false, false, false, false, false, false, false, false, false, false, false] rfl rfl (any_of HT_.out (by kernel_rfl)) (fun _ _ _ h => h) (Or.inl ⟨by rfl, ?_⟩) ?_ ?_
                          rotate_left
                          · intro w'
                            go_simp
                            with_reducible rfl
                          rotate_left
                          · simp only [Act.put, List.setIfInBounds_toArray, List.set_cons_zero, List.set_cons_succ, i64_w, i32_w]
                            rfl
                          refine pure_ (i := 4) (N := some 76) (v := ?_) (a' := ?_) #[true, true, true, true, true, false, false, false, false, false, false, false, false, false, false, false, false, false, false, false, false, false, false, false, false, false, false, false, false, false, false, false, false, false, false, false, false, false, false, false, false, false, false] rfl rfl (any_of HT_.out (by kernel_rfl)) (fun _ _ _ h => h) (Or.inl ⟨by rfl, ?_⟩) ?_ ?_
                          rotate_left
                          · intro w'
                            go_simp
                            with_reducible rfl
                          rotate_left
                          · simp only [Act.put, List.setIfInBounds_toArray, List.set_cons_zero, List.set_cons_succ, i64_w, i32_w]
                            rfl
                          refine one_ (i := 5) (N := some 77) #[true, true, true, true, true, true, false, false, false, false, false, false, false, false, false, false, false, false, false, false, false, false, false, false, false, false, false, false, false, false, false, false, false, false, false, false, false, false, false, false, false, false, false] rfl rfl (one_of HT_.out (by kernel_rfl)) (by decide) (fun K hK => ?_)
                          refine goes_ Try.func39 (by kernel_rfl) rfl #[.int .i64 t143] (by rfl) rfl rfl (by (try simp only [List.map_toArray, List.map_cons, List.map_nil]); first | done | rfl | (simp only [List.length_drop, List.length_take]; rfl)) ?_
                          with_reducible refine (revetmentlaw04_code.calls t143 t150 _ A27.out).mono ?_
                          rintro e w' ⟨rfl, ⟨nd, rfl⟩⟩
                          refine ⟨_, rfl, ?_⟩
                          refine hK.out _ _ ⟨(blk_cell BK149.out 0).trans rfl, (blk_cell BK149.out 1).trans rfl, (blk_cell BK149.out 2).trans rfl, (blk_cell BK118.out 0).trans rfl, (blk_cell BK118.out 1).trans rfl, (blk_cell BK118.out 2).trans rfl, (blk_cell BK118.out 3).trans rfl, (blk_cell BK118.out 4).trans rfl, (blk_cell BK117.out 0).trans rfl, (blk_cell BK117.out 1).trans rfl, (blk_cell BK117.out 2).trans rfl, (blk_cell BK117.out 3).trans rfl, (blk_cell BK117.out 4).trans rfl⟩ (fun hHeld => ?_)
                          clear hK K
                          refine norm_ (a' := ?_) ?_ ?_
                          rotate_left
                          · show Act.put _ (some 77) _ = _
                            simp only [Act.put, List.setIfInBounds_toArray, List.set_cons_zero, List.set_cons_succ, i64_w, i32_w]
                            rfl
                          refine pure_ (i := 6) (N := some 78) (v := ?_) (a' := ?_) #[true, true, true, true, true, true, true, false, false, false, false, false, false, false, false, false, false, false, false, false, false, false, false, false, false, false, false, false, false, false, false, false, false, false, false, false, false, false, false, false, false, false, false] rfl rfl (any_of HT_.out (by kernel_rfl)) (fun _ _ _ h => h) (Or.inl ⟨by rfl, ?_⟩) ?_ ?_
                          rotate_left
                          · intro w'
                            go_simp
                            with_reducible rfl
                          rotate_left
                          · simp only [Act.put, List.setIfInBounds_toArray, List.set_cons_zero, List.set_cons_succ, i64_w, i32_w]
                            rfl
                          refine pure_ (i := 7) (N := some 79) (v := ?_) (a' := ?_) #[true, true, true, true, true, true, true, true, false, false, false, false, false, false, false, false, false, false, false, false, false, false, false, false, false, false, false, false, false, false, false, false, false, false, false, false, false, false, false, false, false, false, false] rfl rfl (any_of HT_.out (by kernel_rfl)) (fun _ _ _ h => h) (Or.inl ⟨by rfl, ?_⟩) ?_ ?_
                          rotate_left
                          · intro w'
                            go_simp
                            with_reducible rfl
                          rotate_left
                          · simp only [Act.put, List.setIfInBounds_toArray, List.set_cons_zero, List.set_cons_succ, i64_w, i32_w]
                            rfl
                          refine pure_ (i := 8) (N := some 80) (v := ?_) (a' := ?_) #[true, true, true, true, true, true, true, true, true, false, false, false, false, false, false, false, false, false, false, false, false, false, false, false, false, false, false, false, false, false, false, false, false, false, false, false, false, false, false, false, false, false, false] rfl rfl (any_of HT_.out (by kernel_rfl)) (fun _ _ _ h => h) (Or.inl ⟨by rfl, ?_⟩) ?_ ?_
                          rotate_left
                          · intro w'
                            go_simp
                            with_reducible rfl
                          rotate_left
                          · simp only [Act.put, List.setIfInBounds_toArray, List.set_cons_zero, List.set_cons_succ, i64_w, i32_w]
                            rfl
                          refine pure_ (i := 9) (N := some 81) (v := ?_) (a' := ?_) #[true, true, true, true, true, true, true, true, true, true, false, false, false, false, false, false, false, false, false, false, false, false, false, false, false, false, false, false, false, false, false, false, false, false, false, false, false, false, false, false, false, false, false] rfl rfl (any_of HT_.out (by kernel_rfl)) (fun _ _ _ h => h) (Or.inl ⟨by rfl, ?_⟩) ?_ ?_
                          rotate_left
                          · intro w'
                            go_simp
                            with_reducible rfl
                          rotate_left
                          · simp only [Act.put, List.setIfInBounds_toArray, List.set_cons_zero, List.set_cons_succ, i64_w, i32_w]
                            rfl
                          refine pure_ (i := 11) (N := some 83) (v := ?_) (a' := ?_) #[true, true, true, true, true, true, true, true, true, true, false, true, false, false, false, false, false, false, false, false, false, false, false, false, false, false, false, false, false, false, false, false, false, false, false, false, false, false, false, false, false, false, false] rfl rfl (any_of HT_.out (by kernel_rfl)) (fun _ _ _ h => h) (Or.inl ⟨by rfl, ?_⟩) ?_ ?_
                          rotate_left
                          · intro w'
                            go_simp
                            with_reducible rfl
                          rotate_left
                          · simp only [Act.put, List.setIfInBounds_toArray, List.set_cons_zero, List.set_cons_succ, i64_w, i32_w]
                            rfl
                          refine one_ (i := 10) (N := some 82) #[true, true, true, true, true, true, true, true, true, true, true, true, false, false, false, false, false, false, false, false, false, false, false, false, false, false, false, false, false, false, false, false, false, false, false, false, false, false, false, false, false, false, false] rfl rfl (one_of HT_.out (by kernel_rfl)) (by decide) (fun K hK => ?_)
                          have hcv91 := own_string (P := Try.prog) Try.underlying22 Try.underlying5 Try.underlying9 (Kd.own_of_R HO142.out); have hcv91d := fun m_ => own_string (P := Try.prog) Try.underlying22 Try.underlying5 Try.underlying9 (pw_own_drewN (Kd.own_of_R HO142.out) m_)
                          refine value_ (w1 := ?_) (v := ?_) (by rfl) rfl ?_ ?_
                          rotate_left 2
                          · go_simp
                            constructor
                            · rfl
                            · rfl
                          clear hcv91 hcv91d
                          refine hK.out _ _ ⟨(blk_cell BK149.out 0).trans rfl, (blk_cell BK149.out 1).trans rfl, (blk_cell BK149.out 2).trans rfl, (blk_cell BK118.out 0).trans rfl, (blk_cell BK118.out 1).trans rfl, (blk_cell BK118.out 2).trans rfl, (blk_cell BK118.out 3).trans rfl, (blk_cell BK118.out 4).trans rfl, (blk_cell BK117.out 0).trans rfl, (blk_cell BK117.out 1).trans rfl, (blk_cell BK117.out 2).trans rfl, (blk_cell BK117.out 3).trans rfl, (blk_cell BK117.out 4).trans rfl⟩ (fun hHeld => ?_)
                          clear hK K
                          refine norm_ (a' := ?_) ?_ ?_
                          rotate_left
                          · show Act.put _ (some 82) _ = _
                            simp only [Act.put, List.setIfInBounds_toArray, List.set_cons_zero, List.set_cons_succ, i64_w, i32_w]
                            rfl
                          refine pure_ (i := 12) (N := some 84) (v := ?_) (a' := ?_) #[true, true, true, true, true, true, true, true, true, true, true, true, true, false, false, false, false, false, false, false, false, false, false, false, false, false, false, false, false, false, false, false, false, false, false, false, false, false, false, false, false, false, false] rfl rfl (any_of HT_.out (by kernel_rfl)) (fun _ _ _ h => h) (Or.inl ⟨by rfl, ?_⟩) ?_ ?_
                          rotate_left
                          · intro w'
                            go_simp
                            with_reducible rfl
                          rotate_left
                          · simp only [Act.put, List.setIfInBounds_toArray, List.set_cons_zero, List.set_cons_succ, i64_w, i32_w]
                            rfl
                          refine pure_ (i := 13) (N := some 85) (v := ?_) (a' := ?_) #[true, true, true, true, true, true, true, true, true, true, true, true, true, true, false, false, false, false, false, false, false, false, false, false, false, false, false, false, false, false, false, false, false, false, false, false, false, false, false, false, false, false, false] rfl rfl (any_of HT_.out (by kernel_rfl)) (fun _ _ _ h => h) (Or.inl ⟨by rfl, ?_⟩) ?_ ?_
                          rotate_left
                          · intro w'
                            go_simp
                            with_reducible rfl
                          rotate_left
                          · simp only [Act.put, List.setIfInBounds_toArray, List.set_cons_zero, List.set_cons_succ, i64_w, i32_w]
                            rfl
                          refine pure_ (i := 14) (N := some 86) (v := ?_) (a' := ?_) #[true, true, true, true, true, true, true, true, true, true, true, true, true, true, true, false, false, false, false, false, false, false, false, false, false, false, false, false, false, false, false, false, false, false, false, false, false, false, false, false, false, false, false] rfl rfl (any_of HT_.out (by kernel_rfl)) (fun _ _ _ h => h) (Or.inl ⟨by rfl, ?_⟩) ?_ ?_
                          rotate_left
                          · intro w'
                            go_simp
                            with_reducible rfl
                          rotate_left
                          · simp only [Act.put, List.setIfInBounds_toArray, List.set_cons_zero, List.set_cons_succ, i64_w, i32_w]
                            rfl
                          refine pure_ (i := 15) (N := some 87) (v := ?_) (a' := ?_) #[true, true, true, true, true, true, true, true, true, true, true, true, true, true, true, true, false, false, false, false, false, false, false, false, false, false, false, false, false, false, false, false, false, false, false, false, false, false, false, false, false, false, false] rfl rfl (any_of HT_.out (by kernel_rfl)) (fun _ _ _ h => h) (Or.inl ⟨by rfl, ?_⟩) ?_ ?_
                          rotate_left
                          · intro w'
                            go_simp
                            with_reducible rfl
                          rotate_left
                          · simp only [Act.put, List.setIfInBounds_toArray, List.set_cons_zero, List.set_cons_succ, i64_w, i32_w]
                            rfl
                          refine pure_ (i := 17) (N := some 89) (v := ?_) (a' := ?_) #[true, true, true, true, true, true, true, true, true, true, true, true, true, true, true, true, false, true, false, false, false, false, false, false, false, false, false, false, false, false, false, false, false, false, false, false, false, false, false, false, false, false, false] rfl rfl (any_of HT_.out (by kernel_rfl)) (fun _ _ _ h => h) (Or.inl ⟨by rfl, ?_⟩) ?_ ?_
                          rotate_left
                          · intro w'
                            go_simp
                            with_reducible rfl
                          rotate_left
                          · simp only [Act.put, List.setIfInBounds_toArray, List.set_cons_zero, List.set_cons_succ, i64_w, i32_w]
                            rfl
                          refine take_ (i := 16) (N := some 88) (v := ?_) (a' := ?_) #[true, true, true, true, true, true, true, true, true, true, true, true, true, true, true, true, true, true, false, false, false, false, false, false, false, false, false, false, false, false, false, false, false, false, false, false, false, false, false, false, false, false, false] rfl rfl (take_ofW HT_.out HW_.out (by kernel_rfl)) (fun _ _ _ h => h) (Or.inl ⟨by rfl, ?_⟩) hHeld ?_ ?_
                          rotate_left
                          · rintro w' ⟨s0, s1, s2, s3, s4, s5, s6, s7, s8, s9, s10, s11, s12⟩
                            go_simp
                            with_reducible rfl
                          rotate_left
                          · simp only [Act.put, List.setIfInBounds_toArray, List.set_cons_zero, List.set_cons_succ, i64_w, i32_w]
                            rfl
                          refine take_ (i := 18) (N := some 90) (v := ?_) (a' := ?_) #[true, true, true, true, true, true, true, true, true, true, true, true, true, true, true, true, true, true, true, false, false, false, false, false, false, false, false, false, false, false, false, false, false, false, false, false, false, false, false, false, false, false, false] rfl rfl (take_ofW HT_.out HW_.out (by kernel_rfl)) (fun _ _ _ h => h) (Or.inl ⟨by rfl, ?_⟩) hHeld ?_ ?_
                          rotate_left
                          · rintro w' ⟨s0, s1, s2, s3, s4, s5, s6, s7, s8, s9, s10, s11, s12⟩
                            go_simp
                            with_reducible rfl
                          rotate_left
                          · simp only [Act.put, List.setIfInBounds_toArray, List.set_cons_zero, List.set_cons_succ, i64_w, i32_w]
                            rfl
                          refine pure_ (i := 19) (N := some 91) (v := ?_) (a' := ?_) #[true, true, true, true, true, true, true, true, true, true, true, true, true, true, true, true, true, true, true, true, false, false, false, false, false, false, false, false, false, false, false, false, false, false, false, false, false, false, false, false, false, false, false] rfl rfl (any_of HT_.out (by kernel_rfl)) (fun _ _ _ h => h) (Or.inl ⟨by rfl, ?_⟩) ?_ ?_
                          rotate_left
                          · intro w'
                            go_simp
                            with_reducible rfl
                          rotate_left
                          · simp only [Act.put, List.setIfInBounds_toArray, List.set_cons_zero, List.set_cons_succ, i64_w, i32_w]
                            rfl
                          refine pure_ (i := 20) (N := some 92) (v := ?_) (a' := ?_) #[true, true, true, true, true, true, true, true, true, true, true, true, true, true, true, true, true, true, true, true, true, false, false, false, false, false, false, false, false, false, false, false, false, false, false, false, false, false, false, false, false, false, false] rfl rfl (any_of HT_.out (by kernel_rfl)) (fun _ _ _ h => h) (Or.inl ⟨by rfl, ?_⟩) ?_ ?_
                          rotate_left
                          · intro w'
                            go_simp
                            with_reducible rfl
                          rotate_left
                          · simp only [Act.put, List.setIfInBounds_toArray, List.set_cons_zero, List.set_cons_succ, i64_w, i32_w]
                            rfl
                          refine pure_ (i := 21) (N := some 93) (v := ?_) (a' := ?_) #[true, true, true, true, true, true, true, true, true, true, true, true, true, true, true, true, true, true, true, true, true, true, false, false, false, false, false, false, false, false, false, false, false, false, false, false, false, false, false, false, false, false, false] rfl rfl (any_of HT_.out (by kernel_rfl)) (fun _ _ _ h => h) (Or.inl ⟨by rfl, ?_⟩) ?_ ?_
                          rotate_left
                          · intro w'
                            go_simp
                            with_reducible rfl
                          rotate_left
                          · simp only [Act.put, List.setIfInBounds_toArray, List.set_cons_zero, List.set_cons_succ, i64_w, i32_w]
                            rfl
                          refine pure_ (i := 22) (N := some 94) (v := ?_) (a' := ?_) #[true, true, true, true, true, true, true, true, true, true, true, true, true, true, true, true, true, true, true, true, true, true, true, false, false, false, false, false, false, false, false, false, false, false, false, false, false, false, false, false, false, false, false] rfl rfl (any_of HT_.out (by kernel_rfl)) (fun _ _ _ h => h) (Or.inl ⟨by rfl, ?_⟩) ?_ ?_
                          rotate_left
                          · intro w'
                            go_simp
                            with_reducible rfl
                          rotate_left
                          · simp only [Act.put, List.setIfInBounds_toArray, List.set_cons_zero, List.set_cons_succ, i64_w, i32_w]
                            rfl
                          refine pure_ (i := 23) (N := some 95) (v := ?_) (a' := ?_) #[true, true, true, true, true, true, true, true, true, true, true, true, true, true, true, true, true, true, true, true, true, true, true, true, false, false, false, false, false, false, false, false, false, false, false, false, false, false, false, false, false, false, false] rfl rfl (any_of HT_.out (by kernel_rfl)) (fun _ _ _ h => h) (Or.inl ⟨by rfl, ?_⟩) ?_ ?_
                          rotate_left
                          · intro w'
                            go_simp
                            with_reducible rfl
                          rotate_left
                          · simp only [Act.put, List.setIfInBounds_toArray, List.set_cons_zero, List.set_cons_succ, i64_w, i32_w]
                            rfl
                          refine pure_ (i := 25) (N := some 97) (v := ?_) (a' := ?_) #[true, true, true, true, true, true, true, true, true, true, true, true, true, true, true, true, true, true, true, true, true, true, true, true, false, true, false, false, false, false, false, false, false, false, false, false, false, false, false, false, false, false, false] rfl rfl (any_of HT_.out (by kernel_rfl)) (fun _ _ _ h => h) (Or.inl ⟨by rfl, ?_⟩) ?_ ?_
                          rotate_left
                          · intro w'
                            go_simp
                            with_reducible rfl
                          rotate_left
                          · simp only [Act.put, List.setIfInBounds_toArray, List.set_cons_zero, List.set_cons_succ, i64_w, i32_w]
                            rfl
                          refine take_ (i := 24) (N := some 96) (v := ?_) (a' := ?_) #[true, true, true, true, true, true, true, true, true, true, true, true, true, true, true, true, true, true, true, true, true, true, true, true, true, true, false, false, false, false, false, false, false, false, false, false, false, false, false, false, false, false, false] rfl rfl (take_ofW HT_.out HW_.out (by kernel_rfl)) (fun _ _ _ h => h) (Or.inl ⟨by rfl, ?_⟩) hHeld ?_ ?_
                          rotate_left
                          · rintro w' ⟨s0, s1, s2, s3, s4, s5, s6, s7, s8, s9, s10, s11, s12⟩
                            go_simp
                            with_reducible rfl
                          rotate_left
                          · simp only [Act.put, List.setIfInBounds_toArray, List.set_cons_zero, List.set_cons_succ, i64_w, i32_w]
                            rfl
                          refine take_ (i := 26) (N := some 98) (v := ?_) (a' := ?_) #[true, true, true, true, true, true, true, true, true, true, true, true, true, true, true, true, true, true, true, true, true, true, true, true, true, true, true, false, false, false, false, false, false, false, false, false, false, false, false, false, false, false, false] rfl rfl (take_ofW HT_.out HW_.out (by kernel_rfl)) (fun _ _ _ h => h) (Or.inl ⟨by rfl, ?_⟩) hHeld ?_ ?_
                          rotate_left
                          · rintro w' ⟨s0, s1, s2, s3, s4, s5, s6, s7, s8, s9, s10, s11, s12⟩
                            go_simp
                            with_reducible rfl
                          rotate_left
                          · simp only [Act.put, List.setIfInBounds_toArray, List.set_cons_zero, List.set_cons_succ, i64_w, i32_w]
                            rfl
                          refine pure_ (i := 27) (N := some 99) (v := ?_) (a' := ?_) #[true, true, true, true, true, true, true, true, true, true, true, true, true, true, true, true, true, true, true, true, true, true, true, true, true, true, true, true, false, false, false, false, false, false, false, false, false, false, false, false, false, false, false] rfl rfl (any_of HT_.out (by kernel_rfl)) (fun _ _ _ h => h) (Or.inl ⟨by rfl, ?_⟩) ?_ ?_
                          rotate_left
                          · intro w'
                            go_simp
                            with_reducible rfl
                          rotate_left
                          · simp only [Act.put, List.setIfInBounds_toArray, List.set_cons_zero, List.set_cons_succ, i64_w, i32_w]
                            rfl
                          refine pure_ (i := 28) (N := some 100) (v := ?_) (a' := ?_) #[true, true, true, true, true, true, true, true, true, true, true, true, true, true, true, true, true, true, true, true, true, true, true, true, true, true, true, true, true, false, false, false, false, false, false, false, false, false, false, false, false, false, false] rfl rfl (any_of HT_.out (by kernel_rfl)) (fun _ _ _ h => h) (Or.inl ⟨by rfl, ?_⟩) ?_ ?_
                          rotate_left
                          · intro w'
                            go_simp
                            with_reducible rfl
                          rotate_left
                          · simp only [Act.put, List.setIfInBounds_toArray, List.set_cons_zero, List.set_cons_succ, i64_w, i32_w]
                            rfl
                          refine pure_ (i := 29) (N := some 101) (v := ?_) (a' := ?_) #[true, true, true, true, true, true, true, true, true, true, true, true, true, true, true, true, true, true, true, true, true, true, true, true, true, true, true, true, true, true, false, false, false, false, false, false, false, false, false, false, false, false, false] rfl rfl (any_of HT_.out (by kernel_rfl)) (fun _ _ _ h => h) (Or.inl ⟨by rfl, ?_⟩) ?_ ?_
                          rotate_left
                          · intro w'
                            go_simp
                            with_reducible rfl
                          rotate_left
                          · simp only [Act.put, List.setIfInBounds_toArray, List.set_cons_zero, List.set_cons_succ, i64_w, i32_w]
                            rfl
                          refine pure_ (i := 30) (N := some 102) (v := ?_) (a' := ?_) #[true, true, true, true, true, true, true, true, true, true, true, true, true, true, true, true, true, true, true, true, true, true, true, true, true, true, true, true, true, true, true, false, false, false, false, false, false, false, false, false, false, false, false] rfl rfl (any_of HT_.out (by kernel_rfl)) (fun _ _ _ h => h) (Or.inl ⟨by rfl, ?_⟩) ?_ ?_
                          rotate_left
                          · intro w'
                            go_simp
                            with_reducible rfl
                          rotate_left
                          · simp only [Act.put, List.setIfInBounds_toArray, List.set_cons_zero, List.set_cons_succ, i64_w, i32_w]
                            rfl
                          refine pure_ (i := 32) (N := some 104) (v := ?_) (a' := ?_) #[true, true, true, true, true, true, true, true, true, true, true, true, true, true, true, true, true, true, true, true, true, true, true, true, true, true, true, true, true, true, true, false, true, false, false, false, false, false, false, false, false, false, false] rfl rfl (any_of HT_.out (by kernel_rfl)) (fun _ _ _ h => h) (Or.inl ⟨by rfl, ?_⟩) ?_ ?_
                          rotate_left
                          · intro w'
                            go_simp
                            with_reducible rfl
                          rotate_left
                          · simp only [Act.put, List.setIfInBounds_toArray, List.set_cons_zero, List.set_cons_succ, i64_w, i32_w]
                            rfl
                          refine take_ (i := 31) (N := some 103) (v := ?_) (a' := ?_) #[true, true, true, true, true, true, true, true, true, true, true, true, true, true, true, true, true, true, true, true, true, true, true, true, true, true, true, true, true, true, true, true, true, false, false, false, false, false, false, false, false, false, false] rfl rfl (take_ofW HT_.out HW_.out (by kernel_rfl)) (fun _ _ _ h => h) (Or.inl ⟨by rfl, ?_⟩) hHeld ?_ ?_
                          rotate_left
                          · rintro w' ⟨s0, s1, s2, s3, s4, s5, s6, s7, s8, s9, s10, s11, s12⟩
                            go_simp
                            with_reducible rfl
                          rotate_left
                          · simp only [Act.put, List.setIfInBounds_toArray, List.set_cons_zero, List.set_cons_succ, i64_w, i32_w]
                            rfl
                          refine take_ (i := 33) (N := some 105) (v := ?_) (a' := ?_) #[true, true, true, true, true, true, true, true, true, true, true, true, true, true, true, true, true, true, true, true, true, true, true, true, true, true, true, true, true, true, true, true, true, true, false, false, false, false, false, false, false, false, false] rfl rfl (take_ofW HT_.out HW_.out (by kernel_rfl)) (fun _ _ _ h => h) (Or.inl ⟨by rfl, ?_⟩) hHeld ?_ ?_
                          rotate_left
                          · rintro w' ⟨s0, s1, s2, s3, s4, s5, s6, s7, s8, s9, s10, s11, s12⟩
                            go_simp
                            with_reducible rfl
                          rotate_left
                          · simp only [Act.put, List.setIfInBounds_toArray, List.set_cons_zero, List.set_cons_succ, i64_w, i32_w]
                            rfl
                          refine pure_ (i := 34) (N := some 106) (v := ?_) (a' := ?_) #[true, true, true, true, true, true, true, true, true, true, true, true, true, true, true, true, true, true, true, true, true, true, true, true, true, true, true, true, true, true, true, true, true, true, true, false, false, false, false, false, false, false, false] rfl rfl (any_of HT_.out (by kernel_rfl)) (fun _ _ _ h => h) (Or.inl ⟨by rfl, ?_⟩) ?_ ?_
                          rotate_left
                          · intro w'
                            go_simp
                            with_reducible rfl
                          rotate_left
                          · simp only [Act.put, List.setIfInBounds_toArray, List.set_cons_zero, List.set_cons_succ, i64_w, i32_w]
                            rfl
                          refine pure_ (i := 35) (N := some 107) (v := ?_) (a' := ?_) #[true, true, true, true, true, true, true, true, true, true, true, true, true, true, true, true, true, true, true, true, true, true, true, true, true, true, true, true, true, true, true, true, true, true, true, true, false, false, false, false, false, false, false] rfl rfl (any_of HT_.out (by kernel_rfl)) (fun _ _ _ h => h) (Or.inl ⟨by rfl, ?_⟩) ?_ ?_
                          rotate_left
                          · intro w'
                            go_simp
                            with_reducible rfl
                          rotate_left
                          · simp only [Act.put, List.setIfInBounds_toArray, List.set_cons_zero, List.set_cons_succ, i64_w, i32_w]
                            rfl
                          refine pure_ (i := 36) (N := some 108) (v := ?_) (a' := ?_) #[true, true, true, true, true, true, true, true, true, true, true, true, true, true, true, true, true, true, true, true, true, true, true, true, true, true, true, true, true, true, true, true, true, true, true, true, true, false, false, false, false, false, false] rfl rfl (any_of HT_.out (by kernel_rfl)) (fun _ _ _ h => h) (Or.inl ⟨by rfl, ?_⟩) ?_ ?_
                          rotate_left
                          · intro w'
                            go_simp
                            with_reducible rfl
                          rotate_left
                          · simp only [Act.put, List.setIfInBounds_toArray, List.set_cons_zero, List.set_cons_succ, i64_w, i32_w]
                            rfl
                          refine take_ (i := 37) (N := some 109) (v := ?_) (a' := ?_) #[true, true, true, true, true, true, true, true, true, true, true, true, true, true, true, true, true, true, true, true, true, true, true, true, true, true, true, true, true, true, true, true, true, true, true, true, true, true, false, false, false, false, false] rfl rfl (take_ofW HT_.out HW_.out (by kernel_rfl)) (fun _ _ _ h => h) (Or.inl ⟨by rfl, ?_⟩) hHeld ?_ ?_
                          rotate_left
                          · rintro w' ⟨s0, s1, s2, s3, s4, s5, s6, s7, s8, s9, s10, s11, s12⟩
                            go_simp
                            with_reducible rfl
                          rotate_left
                          · simp only [Act.put, List.setIfInBounds_toArray, List.set_cons_zero, List.set_cons_succ, i64_w, i32_w]
                            rfl
                          refine take_ (i := 39) (N := some 111) (v := ?_) (a' := ?_) #[true, true, true, true, true, true, true, true, true, true, true, true, true, true, true, true, true, true, true, true, true, true, true, true, true, true, true, true, true, true, true, true, true, true, true, true, true, true, false, true, false, false, false] rfl rfl (take_ofW HT_.out HW_.out (by kernel_rfl)) (fun _ _ _ h => h) (Or.inl ⟨by rfl, ?_⟩) hHeld ?_ ?_
                          rotate_left
                          · rintro w' ⟨s0, s1, s2, s3, s4, s5, s6, s7, s8, s9, s10, s11, s12⟩
                            go_simp
                            with_reducible rfl
                          rotate_left
                          · simp only [Act.put, List.setIfInBounds_toArray, List.set_cons_zero, List.set_cons_succ, i64_w, i32_w]
                            rfl
                          refine one_ (i := 38) (N := some 110) #[true, true, true, true, true, true, true, true, true, true, true, true, true, true, true, true, true, true, true, true, true, true, true, true, true, true, true, true, true, true, true, true, true, true, true, true, true, true, true, true, false, false, false] rfl rfl (one_of HT_.out (by kernel_rfl)) (by decide) (fun K hK => ?_)
                          refine goes_ Try.func52 (by kernel_rfl) rfl #[.agg #[.int .i64 t121, .int .i64 t122, .slice Ao43 t123.length co43, .int .i64 t126, .bool t127]] (by rfl) rfl rfl (by (try simp only [List.map_toArray, List.map_cons, List.map_nil]); first | done | rfl | (simp only [List.length_drop, List.length_take]; rfl)) ?_
                          with_reducible refine (zone_Active.calls t121 t122 _ _ t123 t126 t127 t151 _ ?side1 ?side2 A33.out).mono ?_
                          (case side1 => repeat (first | exact (Kd.R_reads' HO125.out).2.2 | (with_reducible refine Kd.C_alloc ?_ _) | (with_reducible refine Kd.C_drewN ?_ _) | (with_reducible refine Kd.C_drew ?_)))
                          (case side2 => exact (Kd.R_reads' HO125.out).2.1)
                          rintro e w92 ⟨rfl, hb⟩
                          refine ⟨_, rfl, ?_⟩
                          have n0_ := Aside0.mk (Kd.R_below (by (with_reducible repeat (first | apply Kd.R_alloc | apply Kd.R_drewN | apply Kd.R_drew)); exact HO125.out) hb)
                          have n1_ := Aside0.mk (Kd.R_below (by (with_reducible repeat (first | apply Kd.R_alloc | apply Kd.R_drewN | apply Kd.R_drew)); exact HO135.out) hb)
                          have n2_ := Aside0.mk (Kd.R_below (by (with_reducible repeat (first | apply Kd.R_alloc | apply Kd.R_drewN | apply Kd.R_drew)); exact HO142.out) hb)
                          have n3_ := Aside0.mk (blk_below (g := gb117) (o := .cells #[.int .i64 t121, .int .i64 t122, .slice Ao43 t123.length co43, .int .i64 t126, .bool t127] 54 (0, 0)) (by (with_reducible repeat (first | refine blk_drewN ?_ _ | refine blk_drew ?_ | refine blk_alloc ?_ _)); exact BK117.out) hb)
                          have n4_ := Aside0.mk (blk_below (g := gb118) (o := .cells #[.int .i64 t131, .int .i64 t132, .slice Ao55 t133.length co55, .int .i64 t136, .bool t137] 80 (0, 0)) (by (with_reducible repeat (first | refine blk_drewN ?_ _ | refine blk_drew ?_ | refine blk_alloc ?_ _)); exact BK118.out) hb)
                          have n5_ := Aside0.mk (blk_below (g := gb129) (o := .cells #[.int .i64 t121, .int .i64 t122, .slice Ao43 t123.length co43, .int .i64 t126, .bool t127] 54 (0, 0)) (by (with_reducible repeat (first | refine blk_drewN ?_ _ | refine blk_drew ?_ | refine blk_alloc ?_ _)); exact BK129.out) hb)
                          have n6_ := Aside0.mk (blk_below (g := gb139) (o := .cells #[.int .i64 t131, .int .i64 t132, .slice Ao55 t133.length co55, .int .i64 t136, .bool t137] 80 (0, 0)) (by (with_reducible repeat (first | refine blk_drewN ?_ _ | refine blk_drew ?_ | refine blk_alloc ?_ _)); exact BK139.out) hb)
                          have n7_ := Aside0.mk (blk_below (g := gb149) (o := .cells #[.int .i64 t146, .int .i64 t147, .bool t148] 61 (0, 0)) (by (with_reducible repeat (first | refine blk_drewN ?_ _ | refine blk_drew ?_ | refine blk_alloc ?_ _)); exact BK149.out) hb)
                          have n8_ := Aside0.mk (below_step (by repeat (first | (with_reducible first | exact HB.out | apply below_alloc | apply pw_below_drewN | apply below_drew1 | refine below_set ?_ GE117.out | refine below_set ?_ GE118.out | refine below_set ?_ GE129.out | refine below_set ?_ GE139.out | refine below_set ?_ GE149.out) | exact HB.out)) hb)
                          clear HO125
                          clear HO135
                          clear HO142
                          clear BK117
                          clear BK118
                          clear BK129
                          clear BK139
                          clear BK149
                          clear HB
                          have HO125 := n0_
                          have HO135 := n1_
                          have HO142 := n2_
                          have BK117 := n3_
                          have BK118 := n4_
                          have BK129 := n5_
                          have BK139 := n6_
                          have BK149 := n7_
                          have HB := n8_
                          clear n0_ n1_ n2_ n3_ n4_ n5_ n6_ n7_ n8_
                          (try clear hb)
                          (try clear hb2)
                          (try clear hk)
                          (try clear hi)
                          refine hK.out _ _ ⟨(blk_cell BK149.out 0).trans rfl, (blk_cell BK149.out 1).trans rfl, (blk_cell BK149.out 2).trans rfl, (blk_cell BK118.out 0).trans rfl, (blk_cell BK118.out 1).trans rfl, (blk_cell BK118.out 2).trans rfl, (blk_cell BK118.out 3).trans rfl, (blk_cell BK118.out 4).trans rfl, (blk_cell BK117.out 0).trans rfl, (blk_cell BK117.out 1).trans rfl, (blk_cell BK117.out 2).trans rfl, (blk_cell BK117.out 3).trans rfl, (blk_cell BK117.out 4).trans rfl⟩ (fun hHeld => ?_)
                          clear hK K
                          refine norm_ (a' := ?_) ?_ ?_
                          rotate_left
                          · show Act.put _ (some 110) _ = _
                            simp only [Act.put, List.setIfInBounds_toArray, List.set_cons_zero, List.set_cons_succ, i64_w, i32_w]
                            rfl
                          refine one_ (i := 40) (N := some 112) #[true, true, true, true, true, true, true, true, true, true, true, true, true, true, true, true, true, true, true, true, true, true, true, true, true, true, true, true, true, true, true, true, true, true, true, true, true, true, true, true, true, false, false] rfl rfl (one_of HT_.out (by kernel_rfl)) (by decide) (fun K hK => ?_)
                          refine goes_ Try.func53 (by kernel_rfl) rfl #[.agg #[.int .i64 t131, .int .i64 t132, .slice Ao55 t133.length co55, .int .i64 t136, .bool t137]] (by rfl) rfl rfl (by (try simp only [List.map_toArray, List.map_cons, List.map_nil]); first | done | rfl | (simp only [List.length_drop, List.length_take]; rfl)) ?_
                          with_reducible refine (revetmentref04_Active.calls t131 t132 _ _ t133 t136 t137 t152 _ ?side1 ?side2 A34.out).mono ?_
                          (case side1 => repeat (first | exact (Kd.R_reads' HO135.out).2.2 | (with_reducible refine Kd.C_alloc ?_ _) | (with_reducible refine Kd.C_drewN ?_ _) | (with_reducible refine Kd.C_drew ?_)))
                          (case side2 => exact (Kd.R_reads' HO135.out).2.1)
                          rintro e w93 ⟨rfl, hb⟩
                          refine ⟨_, rfl, ?_⟩
                          have n0_ := Aside0.mk (Kd.R_below (by (with_reducible repeat (first | apply Kd.R_alloc | apply Kd.R_drewN | apply Kd.R_drew)); exact HO125.out) hb)
                          have n1_ := Aside0.mk (Kd.R_below (by (with_reducible repeat (first | apply Kd.R_alloc | apply Kd.R_drewN | apply Kd.R_drew)); exact HO135.out) hb)
                          have n2_ := Aside0.mk (Kd.R_below (by (with_reducible repeat (first | apply Kd.R_alloc | apply Kd.R_drewN | apply Kd.R_drew)); exact HO142.out) hb)
                          have n3_ := Aside0.mk (blk_below (g := gb117) (o := .cells #[.int .i64 t121, .int .i64 t122, .slice Ao43 t123.length co43, .int .i64 t126, .bool t127] 54 (0, 0)) (by (with_reducible repeat (first | refine blk_drewN ?_ _ | refine blk_drew ?_ | refine blk_alloc ?_ _)); exact BK117.out) hb)
                          have n4_ := Aside0.mk (blk_below (g := gb118) (o := .cells #[.int .i64 t131, .int .i64 t132, .slice Ao55 t133.length co55, .int .i64 t136, .bool t137] 80 (0, 0)) (by (with_reducible repeat (first | refine blk_drewN ?_ _ | refine blk_drew ?_ | refine blk_alloc ?_ _)); exact BK118.out) hb)
                          have n5_ := Aside0.mk (blk_below (g := gb129) (o := .cells #[.int .i64 t121, .int .i64 t122, .slice Ao43 t123.length co43, .int .i64 t126, .bool t127] 54 (0, 0)) (by (with_reducible repeat (first | refine blk_drewN ?_ _ | refine blk_drew ?_ | refine blk_alloc ?_ _)); exact BK129.out) hb)
                          have n6_ := Aside0.mk (blk_below (g := gb139) (o := .cells #[.int .i64 t131, .int .i64 t132, .slice Ao55 t133.length co55, .int .i64 t136, .bool t137] 80 (0, 0)) (by (with_reducible repeat (first | refine blk_drewN ?_ _ | refine blk_drew ?_ | refine blk_alloc ?_ _)); exact BK139.out) hb)
                          have n7_ := Aside0.mk (blk_below (g := gb149) (o := .cells #[.int .i64 t146, .int .i64 t147, .bool t148] 61 (0, 0)) (by (with_reducible repeat (first | refine blk_drewN ?_ _ | refine blk_drew ?_ | refine blk_alloc ?_ _)); exact BK149.out) hb)
                          have n8_ := Aside0.mk (below_step (by repeat (first | (with_reducible first | exact HB.out | apply below_alloc | apply pw_below_drewN | apply below_drew1 | refine below_set ?_ GE117.out | refine below_set ?_ GE118.out | refine below_set ?_ GE129.out | refine below_set ?_ GE139.out | refine below_set ?_ GE149.out) | exact HB.out)) hb)
                          clear HO125
                          clear HO135
                          clear HO142
                          clear BK117
                          clear BK118
                          clear BK129
                          clear BK139
                          clear BK149
                          clear HB
                          have HO125 := n0_
                          have HO135 := n1_
                          have HO142 := n2_
                          have BK117 := n3_
                          have BK118 := n4_
                          have BK129 := n5_
                          have BK139 := n6_
                          have BK149 := n7_
                          have HB := n8_
                          clear n0_ n1_ n2_ n3_ n4_ n5_ n6_ n7_ n8_
                          (try clear hb)
                          (try clear hb2)
                          (try clear hk)
                          (try clear hi)
                          refine hK.out _ _ ⟨(blk_cell BK149.out 0).trans rfl, (blk_cell BK149.out 1).trans rfl, (blk_cell BK149.out 2).trans rfl, (blk_cell BK118.out 0).trans rfl, (blk_cell BK118.out 1).trans rfl, (blk_cell BK118.out 2).trans rfl, (blk_cell BK118.out 3).trans rfl, (blk_cell BK118.out 4).trans rfl, (blk_cell BK117.out 0).trans rfl, (blk_cell BK117.out 1).trans rfl, (blk_cell BK117.out 2).trans rfl, (blk_cell BK117.out 3).trans rfl, (blk_cell BK117.out 4).trans rfl⟩ (fun hHeld => ?_)
                          clear hK K
                          refine norm_ (a' := ?_) ?_ ?_
                          rotate_left
                          · show Act.put _ (some 112) _ = _
                            simp only [Act.put, List.setIfInBounds_toArray, List.set_cons_zero, List.set_cons_succ, i64_w, i32_w]
                            rfl
                          refine pure_ (i := 41) (N := some 113) (v := ?_) (a' := ?_) #[true, true, true, true, true, true, true, true, true, true, true, true, true, true, true, true, true, true, true, true, true, true, true, true, true, true, true, true, true, true, true, true, true, true, true, true, true, true, true, true, true, true, false] rfl rfl (any_of HT_.out (by kernel_rfl)) (fun _ _ _ h => h) (Or.inl ⟨by rfl, ?_⟩) ?_ ?_
                          rotate_left
                          · intro w'
                            go_simp
                            with_reducible rfl
                          rotate_left
                          · simp only [Act.put, List.setIfInBounds_toArray, List.set_cons_zero, List.set_cons_succ, i64_w, i32_w]
                            rfl
                          refine pure_ (i := 42) (N := some 114) (v := ?_) (a' := ?_) #[true, true, true, true, true, true, true, true, true, true, true, true, true, true, true, true, true, true, true, true, true, true, true, true, true, true, true, true, true, true, true, true, true, true, true, true, true, true, true, true, true, true, true] rfl rfl (any_of HT_.out (by kernel_rfl)) (fun _ _ _ h => h) (Or.inl ⟨by rfl, ?_⟩) ?_ ?_
                          rotate_left
                          · intro w'
                            go_simp
                            with_reducible rfl
                          rotate_left
                          · simp only [Act.put, List.setIfInBounds_toArray, List.set_cons_zero, List.set_cons_succ, i64_w, i32_w]
                            rfl
                          refine done_ (done_of HT_.out (by kernel_rfl)) ?_
                          try go_wp2
                          go_roundg k1
                          case measure => have := HK1.out; omega
                          case rel => exact ⟨(wrap64 (x9_1 + 1)), (t121), (t122), (t123), (t126), (t127), (t131), (t132), (t133), (t136), (t137), (.slice Ao43 t123.length co43), (.slice Ao55 t133.length co55), (by first | rfl | (simp; done) | (simp [*]; done)), H', ⟨by have := HK1.out; omega⟩, ⟨by (with_reducible repeat (first | apply Kd.R_alloc | apply Kd.R_drewN | apply Kd.R_drew)); exact Kd.R_mono HO125.out (fun _ hk => trivial)⟩, ⟨by (with_reducible repeat (first | apply Kd.R_alloc | apply Kd.R_drewN | apply Kd.R_drew)); exact HO135.out⟩, ⟨by (with_reducible repeat (first | refine blk_drewN ?_ _ | refine blk_drew ?_ | refine blk_alloc ?_ _)); exact BK117.out⟩, ⟨by (with_reducible repeat (first | refine blk_drewN ?_ _ | refine blk_drew ?_ | refine blk_alloc ?_ _)); exact BK118.out⟩, ⟨by repeat (first | (with_reducible first | exact HB.out | apply below_alloc | apply pw_below_drewN | apply below_drew1 | refine below_set ?_ GE117.out | refine below_set ?_ GE118.out | refine below_set ?_ GE129.out | refine below_set ?_ GE139.out | refine below_set ?_ GE149.out) | exact HB.out)⟩⟩
                    · rw [if_neg c31] at H
                      exact absurd H (by simp)
                  · rw [if_neg c30] at H
                    exact absurd H (by simp)
                · rw [if_neg c29] at H
                  exact absurd H (by simp)
              · rw [if_neg c28] at H
                exact absurd H (by simp)
            · rw [if_neg c26] at H
              exact absurd H (by simp)
          · rw [if_neg c20] at H
            exact absurd H (by simp)
        · rw [if_neg c19] at H
          have c19b0 : decide (x9_1 < (l2.length : Int)) = false := decide_eq_false c19
          clear c19
          replace H := Option.bind_eq_some_iff.mp H
          obtain ⟨t119, A940, H⟩ := H
          replace H : (some t119) = some r := H
          have A94 := Aside0.mk A940
          clear A940
          obtain rfl := Option.some.inj H
          go_wp2_with (first | ((with_reducible refine gate_callee (f := 34) rfl ?_); refine goesL_ (some 115) rfl rfl Try.func34 (by kernel_rfl) rfl #[] rfl (by (try simp only [List.map_toArray, List.map_cons, List.map_nil]); first | done | rfl | (simp only [List.length_drop, List.length_take]; rfl)) ?_; (with_reducible refine (revetmentlaw04_live.calls k1  t119 _ A94.out).mono ?_); rintro e w95 ⟨rfl, hb⟩; refine ⟨_, rfl, ?_⟩; have n0_ := Aside0.mk (Kd.R_below (by (with_reducible repeat (first | apply Kd.R_alloc | apply Kd.R_drewN | apply Kd.R_drew)); exact HO_118002.out) hb); have n1_ := Aside0.mk (Kd.R_below (by (with_reducible repeat (first | apply Kd.R_alloc | apply Kd.R_drewN | apply Kd.R_drew)); exact HO_119002.out) hb); have n2_ := Aside0.mk (blk_below (g := gb117) (o := .cells #[.int .i64 x118000_1, .int .i64 x118001_1, u118002, .int .i64 x118003_1, .bool x118004_1] 54 (0, 0)) (by (with_reducible repeat (first | refine blk_drewN ?_ _ | refine blk_drew ?_ | refine blk_alloc ?_ _)); exact BK117.out) hb); have n3_ := Aside0.mk (blk_below (g := gb118) (o := .cells #[.int .i64 x119000_1, .int .i64 x119001_1, u119002, .int .i64 x119003_1, .bool x119004_1] 80 (0, 0)) (by (with_reducible repeat (first | refine blk_drewN ?_ _ | refine blk_drew ?_ | refine blk_alloc ?_ _)); exact BK118.out) hb); have n4_ := Aside0.mk (below_step (by repeat (first | (with_reducible first | exact HB.out | apply below_alloc | apply pw_below_drewN | apply below_drew1 | refine below_set ?_ GE117.out | refine below_set ?_ GE118.out) | exact HB.out)) hb); clear HO_118002; clear HO_119002; clear BK117; clear BK118; clear HB; have HO_118002 := n0_; have HO_119002 := n1_; have BK117 := n2_; have BK118 := n3_; have HB := n4_; clear n0_ n1_ n2_ n3_ n4_; (try clear hb); (try clear hb2); (try clear hk); (try clear hi)))
          go_ret
          exact ⟨by first | rfl | (simp [errW_none, errW_some] <;> rfl) | (simp [*, errW_none, errW_some] <;> rfl), by repeat (first | (with_reducible first | exact HB.out | apply below_alloc | apply pw_below_drewN | apply below_drew1 | refine below_set ?_ GE117.out | refine below_set ?_ GE118.out) | exact HB.out)⟩

end Go.Proofs.Ythpggaglmdnncaa.M
