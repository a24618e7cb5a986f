-- Written by wip/tools/mine.py (a program of this session, over the kit's print and texts of its own).
import Derived.Test.YtimpefahapkmhaaM0
import Derived.Test.YtimpefahapkmhaaMpack
import Derived.Test.YtimpefahapkmhaaMrref01
import Derived.Test.YtimpefahapkmhaaMrlaw01
namespace Go.Proofs.Ytimpefahapkmhaa.M
open Go.RowKit Go.Proofs.YtimpefahapkmhaaW.PrintWords Go.Proofs.YtimpefahapkmhaaW.PrintLast Go.Proofs.YtimpefahapkmhaaW.PrintMore Go.Proofs.YtimpefahapkmhaaW.MyWords
attribute [local go_sem] max2_int min2_int max_two min_two max_three min_three max_four min_four   -- for this text's walks alone
set_option linter.unusedVariables false
set_option linter.unusedSimpArgs false

/-! ### revetmentlaw01_PackPuts: function 6 -/
def revetmentlaw01_PackPuts.f (k : Nat) (l0 : List Int) (a1 : Int) (l2 : List Int) (a3 : Bool) (a4 : Int) : Option (Bool) := if (l0.length : Int) > 500 then ((revetmentlaw01_live.f k).bind fun t101 => (some t101)) else (if (l2.length : Int) > 500 then ((revetmentlaw01_live.f k).bind fun t102 => (some t102)) else ((pack_Int.f k l0 a1).bind fun t103 => ((revetmentref01_Int.f k a1).bind fun t106 => (if (strOfNums l0).size + (strOfNums t106).size ≤ 9223372036854775807 then (if (strOfNums t103).toList = ((strOfNums l0) ++ (strOfNums t106)).toList then ((pack_Bytes.f k l0 l2).bind fun t109 => ((revetmentref01_Bytes.f k l2).bind fun t112 => (if (strOfNums l0).size + (strOfNums t112).size ≤ 9223372036854775807 then (if (strOfNums t109).toList = ((strOfNums l0) ++ (strOfNums t112)).toList then ((pack_Flag.f l0 a3).bind fun t115 => ((revetmentref01_Flag.f a3).bind fun t118 => (if (strOfNums l0).size + (strOfNums t118).size ≤ 9223372036854775807 then (if (strOfNums t115).toList = ((strOfNums l0) ++ (strOfNums t118)).toList then ((pack_Pad.f l0 a4).bind fun t121 => ((revetmentref01_Pad.f k l0 a4).bind fun t124 => (if (strOfNums t121).toList = (strOfNums t124).toList then ((revetmentlaw01_live.f k).bind fun t127 => (some t127)) else (none)))) else (none)) else (none)))) else (none)) else (none)))) else (none)) else (none)))))
theorem revetmentlaw01_PackPuts.mono : ∀ a0 a1 a2 a3 a4 k, LeO (revetmentlaw01_PackPuts.f k a0 a1 a2 a3 a4) (revetmentlaw01_PackPuts.f (k + 1) a0 a1 a2 a3 a4) := by
 intro a0 a1 a2 a3 a4 k
 unfold revetmentlaw01_PackPuts.f
 repeat' first
   | (with_reducible exact pack_Bytes.mono _ _ _)
   | (with_reducible exact pack_Int.mono _ _ _)
   | (with_reducible exact revetmentlaw01_live.mono _)
   | (with_reducible exact revetmentref01_Bytes.mono _ _)
   | (with_reducible exact revetmentref01_Int.mono _ _)
   | (with_reducible exact revetmentref01_Pad.mono _ _ _)
   | (with_reducible exact LeO.refl _)
   | (with_reducible exact LeO.none _)
   | (with_reducible refine LeO.ite ?_ ?_)
   | (with_reducible refine LeO.bind ?_ (fun _ => ?_))
   | exact pack_Bytes.mono _ _ _
   | exact pack_Int.mono _ _ _
   | exact revetmentlaw01_live.mono _
   | exact revetmentref01_Bytes.mono _ _
   | exact revetmentref01_Int.mono _ _
   | exact revetmentref01_Pad.mono _ _ _
   | exact LeO.none _
   | refine LeO.ite ?_ ?_
   | refine LeO.bind ?_ (fun _ => ?_)
def revetmentlaw01_PackPuts.T4 : Bool × List (List Nat × List Nat) := (true, [([], []), ([], []), ([0, 1], [0, 1]), ([2], [2]), ([], []), ([], []), ([5, 2], [5]), ([6], [6]), ([4, 7], [4, 7]), ([3, 8], [3, 8]), ([9, 6], [9]), ([10], [10]), ([10], [10]), ([11, 12, 10, 10], [10, 11, 12]), ([13, 10], [10, 13]), ([10], [10]), ([10], [10]), ([16, 13, 10], [10, 16]), ([17, 10], [10, 17]), ([15, 18, 10], [10, 15, 18]), ([14, 19, 10], [10, 14, 19]), ([10, 20], [10, 20]), ([21, 17], [21]), ([22], [22]), ([22], [22]), ([23, 24, 22, 22], [22, 23, 24]), ([25, 22], [22, 25]), ([22], [22]), ([22], [22]), ([28, 25, 22], [22, 28]), ([29, 22], [22, 29]), ([27, 30, 22], [22, 27, 30]), ([26, 31, 22], [22, 26, 31]), ([22, 32], [22, 32]), ([33, 29], [33]), ([34], [34]), ([34], [34]), ([35, 36, 34, 34], [34, 35, 36]), ([37, 34], [34, 37]), ([34], [34]), ([34], [34]), ([39, 40, 37, 34], [34, 39, 40]), ([41, 34], [34, 41]), ([38, 42, 34], [34, 38, 42]), ([34, 43], [34, 43]), ([44, 41], [44]), ([45, 45], [45]), ([45, 46], [45, 46]), ([47, 46, 0, 1, 2, 3, 4, 5, 6, 7, 8, 9, 10, 11, 12, 13, 14, 15, 16, 17, 18, 19, 20, 21, 22, 23, 24, 25, 26, 27, 28, 29, 30, 31, 32, 33, 34, 35, 36, 37, 38, 39, 40, 41, 42, 43, 44, 45, 46, 47], [47])])
def revetmentlaw01_PackPuts.B4 : List Nat := [0, 0, 3, 7, 0, 0, 39, 103, 247, 511, 1023, 2047, 2047, 8191, 16383, 2047, 2047, 81919, 212991, 507903, 1048575, 2097151, 4194303, 8388607, 8388607, 33554431, 67108863, 8388607, 8388607, 335544319, 872415231, 2080374783, 4294967295, 8589934591, 17179869183, 34359738367, 34359738367, 137438953471, 274877906943, 34359738367, 34359738367, 1924145348607, 4123168604159, 8796093022207, 17592186044415, 35184372088831, 70368744177663, 140737488355327, 281474976710655]
theorem revetmentlaw01_PackPuts.tab4 : rtab .any (opsOf Try.f6 4) = revetmentlaw01_PackPuts.T4 := by kernel_rfl
theorem revetmentlaw01_PackPuts.bits4 : waitsOk revetmentlaw01_PackPuts.T4.2 revetmentlaw01_PackPuts.B4 = true := by kernel_rfl
abbrev packPuts_d0 : Array Bool := #[false, false, false, false, false, false, false, false, false, false, false, false, false, false, false, false, false, false, false, false, false, false, false, false, false, false, false, false, false, false, false, false, false, false, false, false, false, false, false, false, false, false, false, false, false, false, false, false, false]
abbrev packPuts_d1 : Array Bool := #[true, false, false, false, false, false, false, false, false, false, false, false, false, false, false, false, false, false, false, false, false, false, false, false, false, false, false, false, false, false, false, false, false, false, false, false, false, false, false, false, false, false, false, false, false, false, false, false, false]
abbrev packPuts_d2 : Array Bool := #[true, true, false, false, false, false, false, false, false, false, false, false, false, false, false, false, false, false, false, false, false, false, false, false, false, false, false, false, false, false, false, false, false, false, false, false, false, false, false, false, false, false, false, false, false, false, false, false, false]
abbrev packPuts_d3 : Array Bool := #[true, true, false, false, true, false, false, false, false, false, false, false, false, false, false, false, false, false, false, false, false, false, false, false, false, false, false, false, false, false, false, false, false, false, false, false, false, false, false, false, false, false, false, false, false, false, false, false, false]
abbrev packPuts_d4 : Array Bool := #[true, true, false, false, true, true, false, false, false, false, false, false, false, false, false, false, false, false, false, false, false, false, false, false, false, false, false, false, false, false, false, false, false, false, false, false, false, false, false, false, false, false, false, false, false, false, false, false, false]
abbrev packPuts_d5 : Array Bool := #[true, true, true, false, true, true, false, false, false, false, false, false, false, false, false, false, false, false, false, false, false, false, false, false, false, false, false, false, false, false, false, false, false, false, false, false, false, false, false, false, false, false, false, false, false, false, false, false, false]
abbrev packPuts_d6 : Array Bool := #[true, true, true, true, true, true, true, true, true, true, true, true, true, true, true, true, true, true, true, true, true, true, true, true, true, true, true, true, true, true, true, true, true, true, true, true, true, true, true, true, true, true, true, false, false, false, false, false, false]
abbrev packPuts_d7 : Array Bool := #[true, true, true, true, true, true, true, true, true, true, true, true, true, true, true, true, true, true, true, true, true, true, true, true, true, true, true, true, true, true, true, true, true, true, true, true, true, true, true, true, true, true, false, false, false, false, false, false, false]
abbrev packPuts_d8 : Array Bool := #[true, true, true, true, true, true, true, true, true, true, true, true, true, true, true, true, true, true, true, true, true, true, true, true, true, true, true, true, true, true, true, true, true, true, true, true, true, true, false, true, true, true, true, false, false, false, false, false, false]
abbrev packPuts_d9 : Array Bool := #[true, true, true, true, true, true, true, true, true, true, true, true, true, true, true, true, true, true, true, true, true, true, true, true, true, true, true, true, true, true, true, true, true, true, true, true, true, true, true, true, true, false, false, false, false, false, false, false, false]
abbrev packPuts_d10 : Array Bool := #[true, true, true, true, true, true, true, true, true, true, true, true, true, true, true, true, true, true, true, true, true, true, true, true, true, true, true, true, true, true, true, true, true, true, true, true, true, true, false, true, true, true, false, false, false, false, false, false, false]
abbrev packPuts_d11 : Array Bool := #[true, true, true, true, true, true, true, true, true, true, true, true, true, true, true, true, true, true, true, true, true, true, true, true, true, true, true, true, true, true, true, true, true, true, true, true, true, true, false, true, true, false, false, false, false, false, false, false, false]
abbrev packPuts_d12 : Array Bool := #[true, true, true, true, true, true, true, true, true, true, true, true, true, true, true, true, true, true, true, true, true, true, true, true, true, true, true, true, true, true, true, true, true, true, true, true, true, false, false, true, true, false, false, false, false, false, false, false, false]
abbrev packPuts_d13 : Array Bool := #[true, true, true, true, true, true, true, true, true, true, true, true, true, true, true, true, true, true, true, true, true, true, true, true, true, true, true, true, true, true, false, false, false, false, false, false, false, false, false, false, false, false, false, false, false, false, false, false, false]
abbrev packPuts_d14 : Array Bool := #[true, true, true, true, true, true, true, true, true, true, true, true, true, true, true, true, true, true, true, true, true, true, true, true, true, true, false, true, true, true, true, true, false, false, false, false, false, false, false, false, false, false, false, false, false, false, false, false, false]
abbrev packPuts_d15 : Array Bool := #[true, true, true, true, true, true, true, true, true, true, true, true, true, true, true, true, true, true, true, true, true, true, true, true, true, true, true, true, true, false, false, false, false, false, false, false, false, false, false, false, false, false, false, false, false, false, false, false, false]
abbrev packPuts_d16 : Array Bool := #[true, true, true, true, true, true, true, true, true, true, true, true, true, true, true, true, true, true, true, true, true, true, true, true, true, true, false, true, true, true, false, false, false, false, false, false, false, false, false, false, false, false, false, false, false, false, false, false, false]
abbrev packPuts_d17 : Array Bool := #[true, true, true, true, true, true, true, true, true, true, true, true, true, true, true, true, true, true, true, true, true, true, true, true, true, true, false, true, true, false, false, false, false, false, false, false, false, false, false, false, false, false, false, false, false, false, false, false, false]
abbrev packPuts_d18 : Array Bool := #[true, true, true, true, true, true, true, true, true, true, true, true, true, true, true, true, true, true, true, true, true, true, true, true, true, false, false, true, true, false, false, false, false, false, false, false, false, false, false, false, false, false, false, false, false, false, false, false, false]
abbrev packPuts_d19 : Array Bool := #[true, true, true, true, true, true, true, true, true, true, true, true, true, true, true, true, true, true, false, false, false, false, false, false, false, false, false, false, false, false, false, false, false, false, false, false, false, false, false, false, false, false, false, false, false, false, false, false, false]
abbrev packPuts_d20 : Array Bool := #[true, true, true, true, true, true, true, true, true, true, true, true, true, true, false, true, true, true, true, true, false, false, false, false, false, false, false, false, false, false, false, false, false, false, false, false, false, false, false, false, false, false, false, false, false, false, false, false, false]
abbrev packPuts_d21 : Array Bool := #[true, true, true, true, true, true, true, true, true, true, true, true, true, true, true, true, true, false, false, false, false, false, false, false, false, false, false, false, false, false, false, false, false, false, false, false, false, false, false, false, false, false, false, false, false, false, false, false, false]
abbrev packPuts_d22 : Array Bool := #[true, true, true, true, true, true, true, true, true, true, true, true, true, true, false, true, true, true, false, false, false, false, false, false, false, false, false, false, false, false, false, false, false, false, false, false, false, false, false, false, false, false, false, false, false, false, false, false, false]
abbrev packPuts_d23 : Array Bool := #[true, true, true, true, true, true, true, true, true, true, true, true, true, true, false, true, true, false, false, false, false, false, false, false, false, false, false, false, false, false, false, false, false, false, false, false, false, false, false, false, false, false, false, false, false, false, false, false, false]
abbrev packPuts_d24 : Array Bool := #[true, true, true, true, true, true, true, true, true, true, true, true, true, false, false, true, true, false, false, false, false, false, false, false, false, false, false, false, false, false, false, false, false, false, false, false, false, false, false, false, false, false, false, false, false, false, false, false, false]
abbrev packPuts_d25 : Array Bool := #[true, true, true, true, true, true, true, false, false, false, false, false, false, false, false, false, false, false, false, false, false, false, false, false, false, false, false, false, false, false, false, false, false, false, false, false, false, false, false, false, false, false, false, false, false, false, false, false, false]
abbrev packPuts_d26 : Array Bool := #[true, true, true, false, true, true, true, true, true, false, false, false, false, false, false, false, false, false, false, false, false, false, false, false, false, false, false, false, false, false, false, false, false, false, false, false, false, false, false, false, false, false, false, false, false, false, false, false, false]
abbrev packPuts_d27 : Array Bool := #[true, true, true, true, true, true, false, false, false, false, false, false, false, false, false, false, false, false, false, false, false, false, false, false, false, false, false, false, false, false, false, false, false, false, false, false, false, false, false, false, false, false, false, false, false, false, false, false, false]
abbrev packPuts_d28 : Array Bool := #[true, true, true, false, true, true, true, false, false, false, false, false, false, false, false, false, false, false, false, false, false, false, false, false, false, false, false, false, false, false, false, false, false, false, false, false, false, false, false, false, false, false, false, false, false, false, false, false, false]
abbrev packPuts_d29 : Array Bool := #[true, true, true, false, true, true, true, true, false, false, false, false, false, false, false, false, false, false, false, false, false, false, false, false, false, false, false, false, false, false, false, false, false, false, false, false, false, false, false, false, false, false, false, false, false, false, false, false, false]
abbrev packPuts_d30 : Array Bool := #[true, true, true, true, true, true, true, true, true, false, false, false, false, false, false, false, false, false, false, false, false, false, false, false, false, false, false, false, false, false, false, false, false, false, false, false, false, false, false, false, false, false, false, false, false, false, false, false, false]
abbrev packPuts_d31 : Array Bool := #[true, true, true, true, true, true, true, true, true, true, false, false, false, false, false, false, false, false, false, false, false, false, false, false, false, false, false, false, false, false, false, false, false, false, false, false, false, false, false, false, false, false, false, false, false, false, false, false, false]
abbrev packPuts_d32 : Array Bool := #[true, true, true, true, true, true, true, true, true, true, true, false, false, false, false, false, false, false, false, false, false, false, false, false, false, false, false, false, false, false, false, false, false, false, false, false, false, false, false, false, false, false, false, false, false, false, false, false, false]
abbrev packPuts_d33 : Array Bool := #[true, true, true, true, true, true, true, true, true, true, true, true, false, false, false, false, false, false, false, false, false, false, false, false, false, false, false, false, false, false, false, false, false, false, false, false, false, false, false, false, false, false, false, false, false, false, false, false, false]
abbrev packPuts_d34 : Array Bool := #[true, true, true, true, true, true, true, true, true, true, true, true, true, false, false, false, false, false, false, false, false, false, false, false, false, false, false, false, false, false, false, false, false, false, false, false, false, false, false, false, false, false, false, false, false, false, false, false, false]
abbrev packPuts_d35 : Array Bool := #[true, true, true, true, true, true, true, true, true, true, true, true, true, false, false, true, false, false, false, false, false, false, false, false, false, false, false, false, false, false, false, false, false, false, false, false, false, false, false, false, false, false, false, false, false, false, false, false, false]
abbrev packPuts_d36 : Array Bool := #[true, true, true, true, true, true, true, true, false, false, false, false, false, false, false, false, false, false, false, false, false, false, false, false, false, false, false, false, false, false, false, false, false, false, false, false, false, false, false, false, false, false, false, false, false, false, false, false, false]
abbrev packPuts_d37 : Array Bool := #[true, true, true, true, true, true, true, true, true, true, true, true, true, true, false, true, true, true, true, false, false, false, false, false, false, false, false, false, false, false, false, false, false, false, false, false, false, false, false, false, false, false, false, false, false, false, false, false, false]
abbrev packPuts_d38 : Array Bool := #[true, true, true, true, true, true, true, true, true, true, true, true, true, true, true, true, true, true, true, true, false, false, false, false, false, false, false, false, false, false, false, false, false, false, false, false, false, false, false, false, false, false, false, false, false, false, false, false, false]
abbrev packPuts_d39 : Array Bool := #[true, true, true, true, true, true, true, true, true, true, true, true, true, true, true, true, true, true, true, true, true, false, false, false, false, false, false, false, false, false, false, false, false, false, false, false, false, false, false, false, false, false, false, false, false, false, false, false, false]
abbrev packPuts_d40 : Array Bool := #[true, true, true, true, true, true, true, true, true, true, true, true, true, true, true, true, true, true, true, true, true, true, false, false, false, false, false, false, false, false, false, false, false, false, false, false, false, false, false, false, false, false, false, false, false, false, false, false, false]
abbrev packPuts_d41 : Array Bool := #[true, true, true, true, true, true, true, true, true, true, true, true, true, true, true, true, true, true, true, true, true, true, true, false, false, false, false, false, false, false, false, false, false, false, false, false, false, false, false, false, false, false, false, false, false, false, false, false, false]
abbrev packPuts_d42 : Array Bool := #[true, true, true, true, true, true, true, true, true, true, true, true, true, true, true, true, true, true, true, true, true, true, true, true, false, false, false, false, false, false, false, false, false, false, false, false, false, false, false, false, false, false, false, false, false, false, false, false, false]
abbrev packPuts_d43 : Array Bool := #[true, true, true, true, true, true, true, true, true, true, true, true, true, true, true, true, true, true, true, true, true, true, true, true, true, false, false, false, false, false, false, false, false, false, false, false, false, false, false, false, false, false, false, false, false, false, false, false, false]
abbrev packPuts_d44 : Array Bool := #[true, true, true, true, true, true, true, true, true, true, true, true, true, true, true, true, true, true, true, true, true, true, true, true, true, false, false, true, false, false, false, false, false, false, false, false, false, false, false, false, false, false, false, false, false, false, false, false, false]
abbrev packPuts_d45 : Array Bool := #[true, true, true, true, true, true, true, true, true, true, true, true, true, true, true, true, true, true, true, false, false, false, false, false, false, false, false, false, false, false, false, false, false, false, false, false, false, false, false, false, false, false, false, false, false, false, false, false, false]
abbrev packPuts_d46 : Array Bool := #[true, true, true, true, true, true, true, true, true, true, true, true, true, true, true, true, true, true, true, true, true, true, true, true, true, true, false, true, true, true, true, false, false, false, false, false, false, false, false, false, false, false, false, false, false, false, false, false, false]
abbrev packPuts_d47 : Array Bool := #[true, true, true, true, true, true, true, true, true, true, true, true, true, true, true, true, true, true, true, true, true, true, true, true, true, true, true, true, true, true, true, true, false, false, false, false, false, false, false, false, false, false, false, false, false, false, false, false, false]
abbrev packPuts_d48 : Array Bool := #[true, true, true, true, true, true, true, true, true, true, true, true, true, true, true, true, true, true, true, true, true, true, true, true, true, true, true, true, true, true, true, true, true, false, false, false, false, false, false, false, false, false, false, false, false, false, false, false, false]
abbrev packPuts_d49 : Array Bool := #[true, true, true, true, true, true, true, true, true, true, true, true, true, true, true, true, true, true, true, true, true, true, true, true, true, true, true, true, true, true, true, true, true, true, false, false, false, false, false, false, false, false, false, false, false, false, false, false, false]
abbrev packPuts_d50 : Array Bool := #[true, true, true, true, true, true, true, true, true, true, true, true, true, true, true, true, true, true, true, true, true, true, true, true, true, true, true, true, true, true, true, true, true, true, true, false, false, false, false, false, false, false, false, false, false, false, false, false, false]
abbrev packPuts_d51 : Array Bool := #[true, true, true, true, true, true, true, true, true, true, true, true, true, true, true, true, true, true, true, true, true, true, true, true, true, true, true, true, true, true, true, true, true, true, true, true, false, false, false, false, false, false, false, false, false, false, false, false, false]
abbrev packPuts_d52 : Array Bool := #[true, true, true, true, true, true, true, true, true, true, true, true, true, true, true, true, true, true, true, true, true, true, true, true, true, true, true, true, true, true, true, true, true, true, true, true, true, false, false, false, false, false, false, false, false, false, false, false, false]
abbrev packPuts_d53 : Array Bool := #[true, true, true, true, true, true, true, true, true, true, true, true, true, true, true, true, true, true, true, true, true, true, true, true, true, true, true, true, true, true, true, true, true, true, true, true, true, false, false, true, false, false, false, false, false, false, false, false, false]
abbrev packPuts_d54 : Array Bool := #[true, true, true, true, true, true, true, true, true, true, true, true, true, true, true, true, true, true, true, true, true, true, true, true, true, true, true, true, true, true, true, false, false, false, false, false, false, false, false, false, false, false, false, false, false, false, false, false, false]
abbrev packPuts_d55 : Array Bool := #[true, true, true, true, true, true, true, true, true, true, true, true, true, true, true, true, true, true, true, true, true, true, true, true, true, true, true, true, true, true, true, true, true, true, true, true, true, true, true, true, true, true, true, true, false, false, false, false, false]
abbrev packPuts_d56 : Array Bool := #[true, true, true, true, true, true, true, true, true, true, true, true, true, true, true, true, true, true, true, true, true, true, true, true, true, true, true, true, true, true, true, true, true, true, true, true, true, true, true, true, true, true, true, true, true, false, false, false, false]
abbrev packPuts_d57 : Array Bool := #[true, true, true, true, true, true, true, true, true, true, true, true, true, true, true, true, true, true, true, true, true, true, true, true, true, true, true, true, true, true, true, true, true, true, true, true, true, true, true, true, true, true, true, true, true, true, false, false, false]
abbrev packPuts_d58 : Array Bool := #[true, true, true, true, true, true, true, true, true, true, true, true, true, true, true, true, true, true, true, true, true, true, true, true, true, true, true, true, true, true, true, true, true, true, true, true, true, true, true, true, true, true, true, true, true, true, true, false, false]
abbrev packPuts_d59 : Array Bool := #[true, true, true, true, true, true, true, true, true, true, true, true, true, true, true, true, true, true, true, true, true, true, true, true, true, true, true, true, true, true, true, true, true, true, true, true, true, true, true, true, true, true, true, true, true, true, true, true, false]
abbrev packPuts_d60 : Array Bool := #[true, true, true, true, true, true, true, true, true, true, true, true, true, true, true, true, true, true, true, true, true, true, true, true, true, true, true, true, true, true, true, true, true, true, true, true, true, true, true, true, true, true, true, true, true, true, true, true, true]
theorem pq0 : type_of% @Kd.R_alloc := @Kd.R_alloc
theorem pq1 : type_of% @Kd.R_drewN := @Kd.R_drewN
theorem pq2 : type_of% @Kd.R_drew := @Kd.R_drew
theorem pq3 : type_of% @below_alloc := @below_alloc
theorem pq4 : type_of% @pw_below_drewN := @pw_below_drewN
theorem pq5 : type_of% @below_drew1 := @below_drew1
theorem pq6 : type_of% @List.setIfInBounds_toArray := @List.setIfInBounds_toArray
theorem pq7 : type_of% @List.set_cons_zero := @List.set_cons_zero
theorem pq8 : type_of% @List.set_cons_succ := @List.set_cons_succ
theorem pq9 : type_of% @blk_drewN := @blk_drewN
theorem pq10 : type_of% @blk_drew := @blk_drew
theorem pq11 : type_of% @blk_alloc := @blk_alloc
theorem am {P : Prop} (h : P) : Aside0 P := ⟨h⟩
set_option maxHeartbeats 8000000 in
set_option maxRecDepth 100000 in
theorem revetmentlaw01_PackPuts.calls (k : Nat) (A0 : Option Addr) (c0 : Nat) (l0 : List Int) (a1 : Int) (A2 : Option Addr) (c2 : Nat) (l2 : List Int) (a3 : Bool) (a4 : Int) (r : Bool) (w : World) (hr0 : Kd.C (Kd.int .u8) w A0 l0.length l0) (hc0 : l0.length ≤ c0) (hr2 : Kd.C (Kd.int .u8) w A2 l2.length l2) (hc2 : l2.length ≤ c2) (h : revetmentlaw01_PackPuts.f k l0 a1 l2 a3 a4 = some r) :
  Calls Try.prog 6 #[.slice A0 l0.length c0, .int .i64 a1, .slice A2 l2.length c2, .bool a3, .int .i64 a4] w fun e w' => e = .returned (.bool r) ∧ Below w.heap.size w w' := by
 have HR0 := am hr0
 have HC0 := am hc0
 clear hr0 hc0
 have HR2 := am hr2
 have HC2 := am hc2
 clear hr2 hc2
 have HB := am (Below.refl w.heap.size w)
 have H : (if (l0.length : Int) > 500 then ((revetmentlaw01_live.f k).bind fun t101 => (some t101)) else (if (l2.length : Int) > 500 then ((revetmentlaw01_live.f k).bind fun t102 => (some t102)) else ((pack_Int.f k l0 a1).bind fun t103 => ((revetmentref01_Int.f k a1).bind fun t106 => (if (strOfNums l0).size + (strOfNums t106).size ≤ 9223372036854775807 then (if (strOfNums t103).toList = ((strOfNums l0) ++ (strOfNums t106)).toList then ((pack_Bytes.f k l0 l2).bind fun t109 => ((revetmentref01_Bytes.f k l2).bind fun t112 => (if (strOfNums l0).size + (strOfNums t112).size ≤ 9223372036854775807 then (if (strOfNums t109).toList = ((strOfNums l0) ++ (strOfNums t112)).toList then ((pack_Flag.f l0 a3).bind fun t115 => ((revetmentref01_Flag.f a3).bind fun t118 => (if (strOfNums l0).size + (strOfNums t118).size ≤ 9223372036854775807 then (if (strOfNums t115).toList = ((strOfNums l0) ++ (strOfNums t118)).toList then ((pack_Pad.f l0 a4).bind fun t121 => ((revetmentref01_Pad.f k l0 a4).bind fun t124 => (if (strOfNums t121).toList = (strOfNums t124).toList then ((revetmentlaw01_live.f k).bind fun t127 => (some t127)) else (none)))) else (none)) else (none)))) else (none)) else (none)))) else (none)) else (none)))))) = some r := h
 clear h
 by_cases c6 : (l0.length : Int) > 500
 ·rw [if_pos c6] at H
  have c6b0 : decide (500 < (l0.length : Int)) = true := decide_eq_true c6
  have c6b1 : decide (500 < l0.length) = true := decide_eq_true (by omega)
  clear c6
  replace H := Option.bind_eq_some_iff.mp H
  obtain ⟨t101, A70, H⟩ := H
  replace H : (some t101) = some r := H
  have A7 := am A70
  clear A70
  obtain rfl := Option.some.inj H
  go_enter Try.func6, Try.ntmps6
  go_wp2_with (first | ((with_reducible refine gate_callee (f := 25) rfl ?_); refine goesL_ (some 20) rfl rfl Try.func25 (by kernel_rfl) rfl #[] rfl (by (try simp only [List.map_toArray, List.map_cons, List.map_nil]); first | done | rfl | (simp only [List.length_drop, List.length_take]; rfl)) ?_; (with_reducible refine (revetmentlaw01_live.calls k  t101 _ A7.out).mono ?_); rintro e w8 ⟨rfl, hb⟩; refine ⟨_, rfl, ?_⟩; have n0_ := am (below_step (by repeat (first | exact HB.out | apply pq3 | apply pq4 | apply pq5)) hb); clear HB; have HB := n0_; clear n0_; (try clear hb); (try clear hb2); (try clear hk); (try clear hi)))
  go_ret
  exact ⟨by first | rfl | (simp [errW_none, errW_some] <;> rfl) | (simp [*, errW_none, errW_some] <;> rfl), by repeat (first | exact HB.out | apply pq3 | apply pq4 | apply pq5)⟩
 ·rw [if_neg c6] at H
  have c6b0 : decide (500 < (l0.length : Int)) = false := decide_eq_false c6
  have c6b1 : decide (500 < l0.length) = false := decide_eq_false (by omega)
  clear c6
  by_cases c9 : (l2.length : Int) > 500
  ·rw [if_pos c9] at H
   have c9b0 : decide (500 < (l2.length : Int)) = true := decide_eq_true c9
   have c9b1 : decide (500 < l2.length) = true := decide_eq_true (by omega)
   clear c9
   replace H := Option.bind_eq_some_iff.mp H
   obtain ⟨t102, A100, H⟩ := H
   replace H : (some t102) = some r := H
   have A10 := am A100
   clear A100
   obtain rfl := Option.some.inj H
   go_enter Try.func6, Try.ntmps6
   go_wp2_with (first | ((with_reducible refine gate_callee (f := 25) rfl ?_); refine goesL_ (some 20) rfl rfl Try.func25 (by kernel_rfl) rfl #[] rfl (by (try simp only [List.map_toArray, List.map_cons, List.map_nil]); first | done | rfl | (simp only [List.length_drop, List.length_take]; rfl)) ?_; (with_reducible refine (revetmentlaw01_live.calls k  t102 _ A10.out).mono ?_); rintro e w11 ⟨rfl, hb⟩; refine ⟨_, rfl, ?_⟩; have n0_ := am (below_step (by repeat (first | exact HB.out | apply pq3 | apply pq4 | apply pq5)) hb); clear HB; have HB := n0_; clear n0_; (try clear hb); (try clear hb2); (try clear hk); (try clear hi)))
   go_ret
   exact ⟨by first | rfl | (simp [errW_none, errW_some] <;> rfl) | (simp [*, errW_none, errW_some] <;> rfl), by repeat (first | exact HB.out | apply pq3 | apply pq4 | apply pq5)⟩
  ·rw [if_neg c9] at H
   have c9b0 : decide (500 < (l2.length : Int)) = false := decide_eq_false c9
   have c9b1 : decide (500 < l2.length) = false := decide_eq_false (by omega)
   clear c9
   replace H := Option.bind_eq_some_iff.mp H
   obtain ⟨t103, A120, H⟩ := H
   replace H : ((revetmentref01_Int.f k a1).bind fun t106 => (if (strOfNums l0).size + (strOfNums t106).size ≤ 9223372036854775807 then (if (strOfNums t103).toList = ((strOfNums l0) ++ (strOfNums t106)).toList then ((pack_Bytes.f k l0 l2).bind fun t109 => ((revetmentref01_Bytes.f k l2).bind fun t112 => (if (strOfNums l0).size + (strOfNums t112).size ≤ 9223372036854775807 then (if (strOfNums t109).toList = ((strOfNums l0) ++ (strOfNums t112)).toList then ((pack_Flag.f l0 a3).bind fun t115 => ((revetmentref01_Flag.f a3).bind fun t118 => (if (strOfNums l0).size + (strOfNums t118).size ≤ 9223372036854775807 then (if (strOfNums t115).toList = ((strOfNums l0) ++ (strOfNums t118)).toList then ((pack_Pad.f l0 a4).bind fun t121 => ((revetmentref01_Pad.f k l0 a4).bind fun t124 => (if (strOfNums t121).toList = (strOfNums t124).toList then ((revetmentlaw01_live.f k).bind fun t127 => (some t127)) else (none)))) else (none)) else (none)))) else (none)) else (none)))) else (none)) else (none))) = some r := H
   have A12 := am A120
   clear A120
   replace H := Option.bind_eq_some_iff.mp H
   obtain ⟨t106, A130, H⟩ := H
   replace H : (if (strOfNums l0).size + (strOfNums t106).size ≤ 9223372036854775807 then (if (strOfNums t103).toList = ((strOfNums l0) ++ (strOfNums t106)).toList then ((pack_Bytes.f k l0 l2).bind fun t109 => ((revetmentref01_Bytes.f k l2).bind fun t112 => (if (strOfNums l0).size + (strOfNums t112).size ≤ 9223372036854775807 then (if (strOfNums t109).toList = ((strOfNums l0) ++ (strOfNums t112)).toList then ((pack_Flag.f l0 a3).bind fun t115 => ((revetmentref01_Flag.f a3).bind fun t118 => (if (strOfNums l0).size + (strOfNums t118).size ≤ 9223372036854775807 then (if (strOfNums t115).toList = ((strOfNums l0) ++ (strOfNums t118)).toList then ((pack_Pad.f l0 a4).bind fun t121 => ((revetmentref01_Pad.f k l0 a4).bind fun t124 => (if (strOfNums t121).toList = (strOfNums t124).toList then ((revetmentlaw01_live.f k).bind fun t127 => (some t127)) else (none)))) else (none)) else (none)))) else (none)) else (none)))) else (none)) else (none)) = some r := H
   have A13 := am A130
   clear A130
   by_cases c14 : (strOfNums l0).size + (strOfNums t106).size ≤ 9223372036854775807
   ·rw [if_pos c14] at H
    have c14b0 := eq_true c14
    have c14b1 : decide ((strOfNums l0).size + (strOfNums t106).size ≤ 9223372036854775807) = true := decide_eq_true c14
    try have c14b2 : (9223372036854775807 < (strOfNums l0).size + (strOfNums t106).size) = False := eq_false (Nat.not_lt.2 c14)
    by_cases c15 : (strOfNums t103).toList = ((strOfNums l0) ++ (strOfNums t106)).toList
    ·rw [if_pos c15] at H
     have c15b0 : ((strOfNums t103).toList == ((strOfNums l0) ++ (strOfNums t106)).toList) = true := beq_iff_eq.mpr c15
     have c15b1 : ((strOfNums t103).toList != ((strOfNums l0) ++ (strOfNums t106)).toList) = false := bne_eq_false_iff_eq.mpr c15
     clear c15
     replace H := Option.bind_eq_some_iff.mp H
     obtain ⟨t109, A160, H⟩ := H
     replace H : ((revetmentref01_Bytes.f k l2).bind fun t112 => (if (strOfNums l0).size + (strOfNums t112).size ≤ 9223372036854775807 then (if (strOfNums t109).toList = ((strOfNums l0) ++ (strOfNums t112)).toList then ((pack_Flag.f l0 a3).bind fun t115 => ((revetmentref01_Flag.f a3).bind fun t118 => (if (strOfNums l0).size + (strOfNums t118).size ≤ 9223372036854775807 then (if (strOfNums t115).toList = ((strOfNums l0) ++ (strOfNums t118)).toList then ((pack_Pad.f l0 a4).bind fun t121 => ((revetmentref01_Pad.f k l0 a4).bind fun t124 => (if (strOfNums t121).toList = (strOfNums t124).toList then ((revetmentlaw01_live.f k).bind fun t127 => (some t127)) else (none)))) else (none)) else (none)))) else (none)) else (none))) = some r := H
     have A16 := am A160
     clear A160
     replace H := Option.bind_eq_some_iff.mp H
     obtain ⟨t112, A170, H⟩ := H
     replace H : (if (strOfNums l0).size + (strOfNums t112).size ≤ 9223372036854775807 then (if (strOfNums t109).toList = ((strOfNums l0) ++ (strOfNums t112)).toList then ((pack_Flag.f l0 a3).bind fun t115 => ((revetmentref01_Flag.f a3).bind fun t118 => (if (strOfNums l0).size + (strOfNums t118).size ≤ 9223372036854775807 then (if (strOfNums t115).toList = ((strOfNums l0) ++ (strOfNums t118)).toList then ((pack_Pad.f l0 a4).bind fun t121 => ((revetmentref01_Pad.f k l0 a4).bind fun t124 => (if (strOfNums t121).toList = (strOfNums t124).toList then ((revetmentlaw01_live.f k).bind fun t127 => (some t127)) else (none)))) else (none)) else (none)))) else (none)) else (none)) = some r := H
     have A17 := am A170
     clear A170
     by_cases c18 : (strOfNums l0).size + (strOfNums t112).size ≤ 9223372036854775807
     ·rw [if_pos c18] at H
      have c18b0 := eq_true c18
      have c18b1 : decide ((strOfNums l0).size + (strOfNums t112).size ≤ 9223372036854775807) = true := decide_eq_true c18
      try have c18b2 : (9223372036854775807 < (strOfNums l0).size + (strOfNums t112).size) = False := eq_false (Nat.not_lt.2 c18)
      by_cases c19 : (strOfNums t109).toList = ((strOfNums l0) ++ (strOfNums t112)).toList
      ·rw [if_pos c19] at H
       have c19b0 : ((strOfNums t109).toList == ((strOfNums l0) ++ (strOfNums t112)).toList) = true := beq_iff_eq.mpr c19
       have c19b1 : ((strOfNums t109).toList != ((strOfNums l0) ++ (strOfNums t112)).toList) = false := bne_eq_false_iff_eq.mpr c19
       clear c19
       replace H := Option.bind_eq_some_iff.mp H
       obtain ⟨t115, A200, H⟩ := H
       replace H : ((revetmentref01_Flag.f a3).bind fun t118 => (if (strOfNums l0).size + (strOfNums t118).size ≤ 9223372036854775807 then (if (strOfNums t115).toList = ((strOfNums l0) ++ (strOfNums t118)).toList then ((pack_Pad.f l0 a4).bind fun t121 => ((revetmentref01_Pad.f k l0 a4).bind fun t124 => (if (strOfNums t121).toList = (strOfNums t124).toList then ((revetmentlaw01_live.f k).bind fun t127 => (some t127)) else (none)))) else (none)) else (none))) = some r := H
       have A20 := am A200
       clear A200
       replace H := Option.bind_eq_some_iff.mp H
       obtain ⟨t118, A210, H⟩ := H
       replace H : (if (strOfNums l0).size + (strOfNums t118).size ≤ 9223372036854775807 then (if (strOfNums t115).toList = ((strOfNums l0) ++ (strOfNums t118)).toList then ((pack_Pad.f l0 a4).bind fun t121 => ((revetmentref01_Pad.f k l0 a4).bind fun t124 => (if (strOfNums t121).toList = (strOfNums t124).toList then ((revetmentlaw01_live.f k).bind fun t127 => (some t127)) else (none)))) else (none)) else (none)) = some r := H
       have A21 := am A210
       clear A210
       by_cases c22 : (strOfNums l0).size + (strOfNums t118).size ≤ 9223372036854775807
       ·rw [if_pos c22] at H
        have c22b0 := eq_true c22
        have c22b1 : decide ((strOfNums l0).size + (strOfNums t118).size ≤ 9223372036854775807) = true := decide_eq_true c22
        try have c22b2 : (9223372036854775807 < (strOfNums l0).size + (strOfNums t118).size) = False := eq_false (Nat.not_lt.2 c22)
        by_cases c23 : (strOfNums t115).toList = ((strOfNums l0) ++ (strOfNums t118)).toList
        ·rw [if_pos c23] at H
         have c23b0 : ((strOfNums t115).toList == ((strOfNums l0) ++ (strOfNums t118)).toList) = true := beq_iff_eq.mpr c23
         have c23b1 : ((strOfNums t115).toList != ((strOfNums l0) ++ (strOfNums t118)).toList) = false := bne_eq_false_iff_eq.mpr c23
         clear c23
         replace H := Option.bind_eq_some_iff.mp H
         obtain ⟨t121, A240, H⟩ := H
         replace H : ((revetmentref01_Pad.f k l0 a4).bind fun t124 => (if (strOfNums t121).toList = (strOfNums t124).toList then ((revetmentlaw01_live.f k).bind fun t127 => (some t127)) else (none))) = some r := H
         have A24 := am A240
         clear A240
         replace H := Option.bind_eq_some_iff.mp H
         obtain ⟨t124, A250, H⟩ := H
         replace H : (if (strOfNums t121).toList = (strOfNums t124).toList then ((revetmentlaw01_live.f k).bind fun t127 => (some t127)) else (none)) = some r := H
         have A25 := am A250
         clear A250
         by_cases c26 : (strOfNums t121).toList = (strOfNums t124).toList
         ·rw [if_pos c26] at H
          have c26b0 : ((strOfNums t121).toList == (strOfNums t124).toList) = true := beq_iff_eq.mpr c26
          have c26b1 : ((strOfNums t121).toList != (strOfNums t124).toList) = false := bne_eq_false_iff_eq.mpr c26
          clear c26
          replace H := Option.bind_eq_some_iff.mp H
          obtain ⟨t127, A270, H⟩ := H
          replace H : (some t127) = some r := H
          have A27 := am A270
          clear A270
          obtain rfl := Option.some.inj H
          have hcv28 := Kd.C_string (P := Try.prog) (A := A0) (c := c0) Try.underlying22 Try.underlying5 Try.underlying9 HR0.out
          go_enter Try.func6, Try.ntmps6
          try go_wp2
          have n0_ := am (pq5 HB.out)
          clear HB
          have HB := n0_
          clear n0_
          refine start_ (n := 49) (S := fun w' => True) (ds := []) packPuts_d0 (by kernel_rfl) rfl rfl trivial (fun hHeld => ?_); refine with_tabW revetmentlaw01_PackPuts.tab4 revetmentlaw01_PackPuts.bits4 (fun HT_ HW_ => ?_)
          generalize w.drew = w29 at HB hHeld ⊢
          refine pure_ (i := 0) (N := some 23) (v := ?_) (a' := ?_) packPuts_d1 rfl rfl (any_of HT_.out (by kernel_rfl)) (fun _ _ _ h => h) (Or.inl ⟨by rfl, ?_⟩) ?_ ?_
          rotate_left
          ·intro w'
           go_simp
           with_reducible rfl
          rotate_left
          ·simp only [Act.put, pq6, pq7, pq8, i64_w, i32_w]
           rfl
          refine pure_ (i := 1) (N := some 24) (v := ?_) (a' := ?_) packPuts_d2 rfl rfl (any_of HT_.out (by kernel_rfl)) (fun _ _ _ h => h) (Or.inl ⟨by rfl, ?_⟩) ?_ ?_
          rotate_left
          ·intro w'
           go_simp
           with_reducible rfl
          rotate_left
          ·simp only [Act.put, pq6, pq7, pq8, i64_w, i32_w]
           rfl
          refine pure_ (i := 4) (N := some 27) (v := ?_) (a' := ?_) packPuts_d3 rfl rfl (any_of HT_.out (by kernel_rfl)) (fun _ _ _ h => h) (Or.inl ⟨by rfl, ?_⟩) ?_ ?_
          rotate_left
          ·intro w'
           go_simp
           with_reducible rfl
          rotate_left
          ·simp only [Act.put, pq6, pq7, pq8, i64_w, i32_w]
           rfl
          refine pure_ (i := 5) (N := some 28) (v := ?_) (a' := ?_) packPuts_d4 rfl rfl (any_of HT_.out (by kernel_rfl)) (fun _ _ _ h => h) (Or.inl ⟨by rfl, ?_⟩) ?_ ?_
          rotate_left
          ·intro w'
           go_simp
           with_reducible rfl
          rotate_left
          ·simp only [Act.put, pq6, pq7, pq8, i64_w, i32_w]
           rfl
          refine one_ (i := 2) (N := some 25) packPuts_d5 rfl rfl (one_of HT_.out (by kernel_rfl)) (by decide) (fun K hK => ?_)
          refine goes_ Try.func26 (by kernel_rfl) rfl #[.slice A0 l0.length c0, .int .i64 a1] (by rfl) rfl rfl (by (try simp only [List.map_toArray, List.map_cons, List.map_nil]); first | done | rfl | (simp only [List.length_drop, List.length_take]; rfl)) ?_
          with_reducible refine (pack_Int.calls k _ _ l0 a1 t103 _ ?side1 ?side2 A12.out).mono ?_
          (case side1 => repeat (first | exact (Kd.C_below HR0.out HB.out) | (with_reducible refine Kd.C_alloc ?_ _) | (with_reducible refine Kd.C_drewN ?_ _) | (with_reducible refine Kd.C_drew ?_)))
          (case side2 => exact HC0.out)
          rintro e w30 ⟨v104, rfl, ho0, hb⟩
          refine ⟨_, rfl, ?_⟩
          have n0_ := am (Kd.R_lower ho0 (below_size (by repeat (first | exact HB.out | apply pq3 | apply pq4 | apply pq5))))
          have n1_ := am (below_step (by repeat (first | exact HB.out | apply pq3 | apply pq4 | apply pq5)) hb)
          clear HB
          have HO105 := n0_
          have HB := n1_
          clear n0_ n1_
          (try clear hb)
          (try clear hb2)
          (try clear hk)
          (try clear hi)
          (try clear ho0)
          refine hK.out _ _ trivial (fun hHeld => ?_)
          clear hK K
          refine norm_ (a' := ?_) ?_ ?_
          rotate_left
          ·show Act.put _ (some 25) _ = _
           simp only [Act.put, pq6, pq7, pq8, i64_w, i32_w]
           rfl
          refine join_ (σ := Value × Value × Value × Value × Value × Value × Value) 6 packPuts_d6 (fun s_ => [(26, .string (strOfNums t103)), (29, s_.1), (30, .string (strOfNums t106)), (36, s_.2.1), (37, .string (strOfNums t109)), (40, s_.2.2.1), (41, .string (strOfNums t112)), (48, s_.2.2.2.1), (49, .string (strOfNums t115)), (52, s_.2.2.2.2.1), (53, .string (strOfNums t118)), (60, s_.2.2.2.2.2.1), (61, .string (strOfNums t121)), (64, s_.2.2.2.2.2.2), (65, .string (strOfNums t124)), (31, .string ((strOfNums l0) ++ (strOfNums t106))), (32, .bool true), (33, .bool true), (34, .slice A0 l0.length c0), (35, .slice A2 l2.length c2), (38, .string (strOfNums l0)), (39, .slice A2 l2.length c2), (42, .string ((strOfNums l0) ++ (strOfNums t112))), (43, .bool true), (44, .bool true), (45, .bool true), (46, .slice A0 l0.length c0), (47, .bool a3), (50, .string (strOfNums l0)), (51, .bool a3), (54, .string ((strOfNums l0) ++ (strOfNums t118))), (55, .bool true), (56, .bool true), (57, .bool true), (58, .slice A0 l0.length c0), (59, .int .i64 a4), (62, .slice A0 l0.length c0), (63, .int .i64 a4)]) (fun s_ w' => (Kd.R (Kd.int .u8) 5 w' w.heap.size (fun k_ => some k_ ≠ (s_.1 : Value).ownBlock ∧ some k_ ≠ (s_.2.1 : Value).ownBlock ∧ some k_ ≠ (s_.2.2.1 : Value).ownBlock ∧ some k_ ≠ (s_.2.2.2.1 : Value).ownBlock ∧ some k_ ≠ (s_.2.2.2.2.1 : Value).ownBlock ∧ some k_ ≠ (s_.2.2.2.2.2.1 : Value).ownBlock ∧ some k_ ≠ (s_.2.2.2.2.2.2 : Value).ownBlock) v104 t103) ∧ (Kd.R (Kd.int .u8) 5 w' w.heap.size (fun k_ => some k_ ≠ (v104 : Value).ownBlock ∧ some k_ ≠ (s_.2.1 : Value).ownBlock ∧ some k_ ≠ (s_.2.2.1 : Value).ownBlock ∧ some k_ ≠ (s_.2.2.2.1 : Value).ownBlock ∧ some k_ ≠ (s_.2.2.2.2.1 : Value).ownBlock ∧ some k_ ≠ (s_.2.2.2.2.2.1 : Value).ownBlock ∧ some k_ ≠ (s_.2.2.2.2.2.2 : Value).ownBlock) s_.1 t106) ∧ (Kd.R (Kd.int .u8) 5 w' w.heap.size (fun k_ => some k_ ≠ (v104 : Value).ownBlock ∧ some k_ ≠ (s_.1 : Value).ownBlock ∧ some k_ ≠ (s_.2.2.1 : Value).ownBlock ∧ some k_ ≠ (s_.2.2.2.1 : Value).ownBlock ∧ some k_ ≠ (s_.2.2.2.2.1 : Value).ownBlock ∧ some k_ ≠ (s_.2.2.2.2.2.1 : Value).ownBlock ∧ some k_ ≠ (s_.2.2.2.2.2.2 : Value).ownBlock) s_.2.1 t109) ∧ (Kd.R (Kd.int .u8) 5 w' w.heap.size (fun k_ => some k_ ≠ (v104 : Value).ownBlock ∧ some k_ ≠ (s_.1 : Value).ownBlock ∧ some k_ ≠ (s_.2.1 : Value).ownBlock ∧ some k_ ≠ (s_.2.2.2.1 : Value).ownBlock ∧ some k_ ≠ (s_.2.2.2.2.1 : Value).ownBlock ∧ some k_ ≠ (s_.2.2.2.2.2.1 : Value).ownBlock ∧ some k_ ≠ (s_.2.2.2.2.2.2 : Value).ownBlock) s_.2.2.1 t112) ∧ (Kd.R (Kd.int .u8) 5 w' w.heap.size (fun k_ => some k_ ≠ (v104 : Value).ownBlock ∧ some k_ ≠ (s_.1 : Value).ownBlock ∧ some k_ ≠ (s_.2.1 : Value).ownBlock ∧ some k_ ≠ (s_.2.2.1 : Value).ownBlock ∧ some k_ ≠ (s_.2.2.2.2.1 : Value).ownBlock ∧ some k_ ≠ (s_.2.2.2.2.2.1 : Value).ownBlock ∧ some k_ ≠ (s_.2.2.2.2.2.2 : Value).ownBlock) s_.2.2.2.1 t115) ∧ (Kd.R (Kd.int .u8) 5 w' w.heap.size (fun k_ => some k_ ≠ (v104 : Value).ownBlock ∧ some k_ ≠ (s_.1 : Value).ownBlock ∧ some k_ ≠ (s_.2.1 : Value).ownBlock ∧ some k_ ≠ (s_.2.2.1 : Value).ownBlock ∧ some k_ ≠ (s_.2.2.2.1 : Value).ownBlock ∧ some k_ ≠ (s_.2.2.2.2.2.1 : Value).ownBlock ∧ some k_ ≠ (s_.2.2.2.2.2.2 : Value).ownBlock) s_.2.2.2.2.1 t118) ∧ (Kd.R (Kd.int .u8) 5 w' w.heap.size (fun k_ => some k_ ≠ (v104 : Value).ownBlock ∧ some k_ ≠ (s_.1 : Value).ownBlock ∧ some k_ ≠ (s_.2.1 : Value).ownBlock ∧ some k_ ≠ (s_.2.2.1 : Value).ownBlock ∧ some k_ ≠ (s_.2.2.2.1 : Value).ownBlock ∧ some k_ ≠ (s_.2.2.2.2.1 : Value).ownBlock ∧ some k_ ≠ (s_.2.2.2.2.2.2 : Value).ownBlock) s_.2.2.2.2.2.1 t121) ∧ (Kd.R (Kd.int .u8) 5 w' w.heap.size (fun k_ => some k_ ≠ (v104 : Value).ownBlock ∧ some k_ ≠ (s_.1 : Value).ownBlock ∧ some k_ ≠ (s_.2.1 : Value).ownBlock ∧ some k_ ≠ (s_.2.2.1 : Value).ownBlock ∧ some k_ ≠ (s_.2.2.2.1 : Value).ownBlock ∧ some k_ ≠ (s_.2.2.2.2.1 : Value).ownBlock ∧ some k_ ≠ (s_.2.2.2.2.2.1 : Value).ownBlock) s_.2.2.2.2.2.2 t124) ∧ (Below w.heap.size w w')) ?_ ?_
          rotate_left
          ·intro hJ3_6_7_13_14_17_18_25_26_29_30_37_38_41_42
           refine join_ (σ := Value × Value × Value × Value × Value × Value × Value) 7 packPuts_d7 (fun s_ => [(26, .string (strOfNums t103)), (29, s_.1), (30, .string (strOfNums t106)), (36, s_.2.1), (37, .string (strOfNums t109)), (40, s_.2.2.1), (41, .string (strOfNums t112)), (48, s_.2.2.2.1), (49, .string (strOfNums t115)), (52, s_.2.2.2.2.1), (53, .string (strOfNums t118)), (60, s_.2.2.2.2.2.1), (61, .string (strOfNums t121)), (64, s_.2.2.2.2.2.2), (31, .string ((strOfNums l0) ++ (strOfNums t106))), (32, .bool true), (33, .bool true), (34, .slice A0 l0.length c0), (35, .slice A2 l2.length c2), (38, .string (strOfNums l0)), (39, .slice A2 l2.length c2), (42, .string ((strOfNums l0) ++ (strOfNums t112))), (43, .bool true), (44, .bool true), (45, .bool true), (46, .slice A0 l0.length c0), (47, .bool a3), (50, .string (strOfNums l0)), (51, .bool a3), (54, .string ((strOfNums l0) ++ (strOfNums t118))), (55, .bool true), (56, .bool true), (57, .bool true), (58, .slice A0 l0.length c0), (59, .int .i64 a4), (62, .slice A0 l0.length c0), (63, .int .i64 a4)]) (fun s_ w' => (Kd.R (Kd.int .u8) 5 w' w.heap.size (fun k_ => some k_ ≠ (s_.1 : Value).ownBlock ∧ some k_ ≠ (s_.2.1 : Value).ownBlock ∧ some k_ ≠ (s_.2.2.1 : Value).ownBlock ∧ some k_ ≠ (s_.2.2.2.1 : Value).ownBlock ∧ some k_ ≠ (s_.2.2.2.2.1 : Value).ownBlock ∧ some k_ ≠ (s_.2.2.2.2.2.1 : Value).ownBlock ∧ some k_ ≠ (s_.2.2.2.2.2.2 : Value).ownBlock) v104 t103) ∧ (Kd.R (Kd.int .u8) 5 w' w.heap.size (fun k_ => some k_ ≠ (v104 : Value).ownBlock ∧ some k_ ≠ (s_.2.1 : Value).ownBlock ∧ some k_ ≠ (s_.2.2.1 : Value).ownBlock ∧ some k_ ≠ (s_.2.2.2.1 : Value).ownBlock ∧ some k_ ≠ (s_.2.2.2.2.1 : Value).ownBlock ∧ some k_ ≠ (s_.2.2.2.2.2.1 : Value).ownBlock ∧ some k_ ≠ (s_.2.2.2.2.2.2 : Value).ownBlock) s_.1 t106) ∧ (Kd.R (Kd.int .u8) 5 w' w.heap.size (fun k_ => some k_ ≠ (v104 : Value).ownBlock ∧ some k_ ≠ (s_.1 : Value).ownBlock ∧ some k_ ≠ (s_.2.2.1 : Value).ownBlock ∧ some k_ ≠ (s_.2.2.2.1 : Value).ownBlock ∧ some k_ ≠ (s_.2.2.2.2.1 : Value).ownBlock ∧ some k_ ≠ (s_.2.2.2.2.2.1 : Value).ownBlock ∧ some k_ ≠ (s_.2.2.2.2.2.2 : Value).ownBlock) s_.2.1 t109) ∧ (Kd.R (Kd.int .u8) 5 w' w.heap.size (fun k_ => some k_ ≠ (v104 : Value).ownBlock ∧ some k_ ≠ (s_.1 : Value).ownBlock ∧ some k_ ≠ (s_.2.1 : Value).ownBlock ∧ some k_ ≠ (s_.2.2.2.1 : Value).ownBlock ∧ some k_ ≠ (s_.2.2.2.2.1 : Value).ownBlock ∧ some k_ ≠ (s_.2.2.2.2.2.1 : Value).ownBlock ∧ some k_ ≠ (s_.2.2.2.2.2.2 : Value).ownBlock) s_.2.2.1 t112) ∧ (Kd.R (Kd.int .u8) 5 w' w.heap.size (fun k_ => some k_ ≠ (v104 : Value).ownBlock ∧ some k_ ≠ (s_.1 : Value).ownBlock ∧ some k_ ≠ (s_.2.1 : Value).ownBlock ∧ some k_ ≠ (s_.2.2.1 : Value).ownBlock ∧ some k_ ≠ (s_.2.2.2.2.1 : Value).ownBlock ∧ some k_ ≠ (s_.2.2.2.2.2.1 : Value).ownBlock ∧ some k_ ≠ (s_.2.2.2.2.2.2 : Value).ownBlock) s_.2.2.2.1 t115) ∧ (Kd.R (Kd.int .u8) 5 w' w.heap.size (fun k_ => some k_ ≠ (v104 : Value).ownBlock ∧ some k_ ≠ (s_.1 : Value).ownBlock ∧ some k_ ≠ (s_.2.1 : Value).ownBlock ∧ some k_ ≠ (s_.2.2.1 : Value).ownBlock ∧ some k_ ≠ (s_.2.2.2.1 : Value).ownBlock ∧ some k_ ≠ (s_.2.2.2.2.2.1 : Value).ownBlock ∧ some k_ ≠ (s_.2.2.2.2.2.2 : Value).ownBlock) s_.2.2.2.2.1 t118) ∧ (Kd.R (Kd.int .u8) 5 w' w.heap.size (fun k_ => some k_ ≠ (v104 : Value).ownBlock ∧ some k_ ≠ (s_.1 : Value).ownBlock ∧ some k_ ≠ (s_.2.1 : Value).ownBlock ∧ some k_ ≠ (s_.2.2.1 : Value).ownBlock ∧ some k_ ≠ (s_.2.2.2.1 : Value).ownBlock ∧ some k_ ≠ (s_.2.2.2.2.1 : Value).ownBlock ∧ some k_ ≠ (s_.2.2.2.2.2.2 : Value).ownBlock) s_.2.2.2.2.2.1 t121) ∧ (Kd.R (Kd.int .u8) 5 w' w.heap.size (fun k_ => some k_ ≠ (v104 : Value).ownBlock ∧ some k_ ≠ (s_.1 : Value).ownBlock ∧ some k_ ≠ (s_.2.1 : Value).ownBlock ∧ some k_ ≠ (s_.2.2.1 : Value).ownBlock ∧ some k_ ≠ (s_.2.2.2.1 : Value).ownBlock ∧ some k_ ≠ (s_.2.2.2.2.1 : Value).ownBlock ∧ some k_ ≠ (s_.2.2.2.2.2.1 : Value).ownBlock) s_.2.2.2.2.2.2 t124) ∧ (Below w.heap.size w w')) ?_ ?_
           rotate_left
           ·intro hJ3_6_7_13_14_17_18_25_26_29_30_37_38_41
            refine join_ (σ := Value × Value × Value × Value × Value × Value × Value) 7 packPuts_d8 (fun s_ => [(26, .string (strOfNums t103)), (29, s_.1), (30, .string (strOfNums t106)), (36, s_.2.1), (37, .string (strOfNums t109)), (40, s_.2.2.1), (41, .string (strOfNums t112)), (48, s_.2.2.2.1), (49, .string (strOfNums t115)), (52, s_.2.2.2.2.1), (53, .string (strOfNums t118)), (60, s_.2.2.2.2.2.1), (64, s_.2.2.2.2.2.2), (65, .string (strOfNums t124)), (31, .string ((strOfNums l0) ++ (strOfNums t106))), (32, .bool true), (33, .bool true), (34, .slice A0 l0.length c0), (35, .slice A2 l2.length c2), (38, .string (strOfNums l0)), (39, .slice A2 l2.length c2), (42, .string ((strOfNums l0) ++ (strOfNums t112))), (43, .bool true), (44, .bool true), (45, .bool true), (46, .slice A0 l0.length c0), (47, .bool a3), (50, .string (strOfNums l0)), (51, .bool a3), (54, .string ((strOfNums l0) ++ (strOfNums t118))), (55, .bool true), (56, .bool true), (57, .bool true), (58, .slice A0 l0.length c0), (59, .int .i64 a4), (62, .slice A0 l0.length c0), (63, .int .i64 a4)]) (fun s_ w' => (Kd.R (Kd.int .u8) 5 w' w.heap.size (fun k_ => some k_ ≠ (s_.1 : Value).ownBlock ∧ some k_ ≠ (s_.2.1 : Value).ownBlock ∧ some k_ ≠ (s_.2.2.1 : Value).ownBlock ∧ some k_ ≠ (s_.2.2.2.1 : Value).ownBlock ∧ some k_ ≠ (s_.2.2.2.2.1 : Value).ownBlock ∧ some k_ ≠ (s_.2.2.2.2.2.1 : Value).ownBlock ∧ some k_ ≠ (s_.2.2.2.2.2.2 : Value).ownBlock) v104 t103) ∧ (Kd.R (Kd.int .u8) 5 w' w.heap.size (fun k_ => some k_ ≠ (v104 : Value).ownBlock ∧ some k_ ≠ (s_.2.1 : Value).ownBlock ∧ some k_ ≠ (s_.2.2.1 : Value).ownBlock ∧ some k_ ≠ (s_.2.2.2.1 : Value).ownBlock ∧ some k_ ≠ (s_.2.2.2.2.1 : Value).ownBlock ∧ some k_ ≠ (s_.2.2.2.2.2.1 : Value).ownBlock ∧ some k_ ≠ (s_.2.2.2.2.2.2 : Value).ownBlock) s_.1 t106) ∧ (Kd.R (Kd.int .u8) 5 w' w.heap.size (fun k_ => some k_ ≠ (v104 : Value).ownBlock ∧ some k_ ≠ (s_.1 : Value).ownBlock ∧ some k_ ≠ (s_.2.2.1 : Value).ownBlock ∧ some k_ ≠ (s_.2.2.2.1 : Value).ownBlock ∧ some k_ ≠ (s_.2.2.2.2.1 : Value).ownBlock ∧ some k_ ≠ (s_.2.2.2.2.2.1 : Value).ownBlock ∧ some k_ ≠ (s_.2.2.2.2.2.2 : Value).ownBlock) s_.2.1 t109) ∧ (Kd.R (Kd.int .u8) 5 w' w.heap.size (fun k_ => some k_ ≠ (v104 : Value).ownBlock ∧ some k_ ≠ (s_.1 : Value).ownBlock ∧ some k_ ≠ (s_.2.1 : Value).ownBlock ∧ some k_ ≠ (s_.2.2.2.1 : Value).ownBlock ∧ some k_ ≠ (s_.2.2.2.2.1 : Value).ownBlock ∧ some k_ ≠ (s_.2.2.2.2.2.1 : Value).ownBlock ∧ some k_ ≠ (s_.2.2.2.2.2.2 : Value).ownBlock) s_.2.2.1 t112) ∧ (Kd.R (Kd.int .u8) 5 w' w.heap.size (fun k_ => some k_ ≠ (v104 : Value).ownBlock ∧ some k_ ≠ (s_.1 : Value).ownBlock ∧ some k_ ≠ (s_.2.1 : Value).ownBlock ∧ some k_ ≠ (s_.2.2.1 : Value).ownBlock ∧ some k_ ≠ (s_.2.2.2.2.1 : Value).ownBlock ∧ some k_ ≠ (s_.2.2.2.2.2.1 : Value).ownBlock ∧ some k_ ≠ (s_.2.2.2.2.2.2 : Value).ownBlock) s_.2.2.2.1 t115) ∧ (Kd.R (Kd.int .u8) 5 w' w.heap.size (fun k_ => some k_ ≠ (v104 : Value).ownBlock ∧ some k_ ≠ (s_.1 : Value).ownBlock ∧ some k_ ≠ (s_.2.1 : Value).ownBlock ∧ some k_ ≠ (s_.2.2.1 : Value).ownBlock ∧ some k_ ≠ (s_.2.2.2.1 : Value).ownBlock ∧ some k_ ≠ (s_.2.2.2.2.2.1 : Value).ownBlock ∧ some k_ ≠ (s_.2.2.2.2.2.2 : Value).ownBlock) s_.2.2.2.2.1 t118) ∧ (Kd.R (Kd.int .u8) 5 w' w.heap.size (fun k_ => some k_ ≠ (v104 : Value).ownBlock ∧ some k_ ≠ (s_.1 : Value).ownBlock ∧ some k_ ≠ (s_.2.1 : Value).ownBlock ∧ some k_ ≠ (s_.2.2.1 : Value).ownBlock ∧ some k_ ≠ (s_.2.2.2.1 : Value).ownBlock ∧ some k_ ≠ (s_.2.2.2.2.1 : Value).ownBlock ∧ some k_ ≠ (s_.2.2.2.2.2.2 : Value).ownBlock) s_.2.2.2.2.2.1 t121) ∧ (Kd.R (Kd.int .u8) 5 w' w.heap.size (fun k_ => some k_ ≠ (v104 : Value).ownBlock ∧ some k_ ≠ (s_.1 : Value).ownBlock ∧ some k_ ≠ (s_.2.1 : Value).ownBlock ∧ some k_ ≠ (s_.2.2.1 : Value).ownBlock ∧ some k_ ≠ (s_.2.2.2.1 : Value).ownBlock ∧ some k_ ≠ (s_.2.2.2.2.1 : Value).ownBlock ∧ some k_ ≠ (s_.2.2.2.2.2.1 : Value).ownBlock) s_.2.2.2.2.2.2 t124) ∧ (Below w.heap.size w w')) ?_ ?_
            rotate_left
            ·intro hJ3_6_7_13_14_17_18_25_26_29_30_37_41_42
             refine join_ (σ := Value × Value × Value × Value × Value × Value) 8 packPuts_d9 (fun s_ => [(26, .string (strOfNums t103)), (29, s_.1), (30, .string (strOfNums t106)), (36, s_.2.1), (37, .string (strOfNums t109)), (40, s_.2.2.1), (41, .string (strOfNums t112)), (48, s_.2.2.2.1), (49, .string (strOfNums t115)), (52, s_.2.2.2.2.1), (53, .string (strOfNums t118)), (60, s_.2.2.2.2.2), (61, .string (strOfNums t121)), (31, .string ((strOfNums l0) ++ (strOfNums t106))), (32, .bool true), (33, .bool true), (34, .slice A0 l0.length c0), (35, .slice A2 l2.length c2), (38, .string (strOfNums l0)), (39, .slice A2 l2.length c2), (42, .string ((strOfNums l0) ++ (strOfNums t112))), (43, .bool true), (44, .bool true), (45, .bool true), (46, .slice A0 l0.length c0), (47, .bool a3), (50, .string (strOfNums l0)), (51, .bool a3), (54, .string ((strOfNums l0) ++ (strOfNums t118))), (55, .bool true), (56, .bool true), (57, .bool true), (58, .slice A0 l0.length c0), (59, .int .i64 a4), (62, .slice A0 l0.length c0), (63, .int .i64 a4)]) (fun s_ w' => (Kd.R (Kd.int .u8) 5 w' w.heap.size (fun k_ => some k_ ≠ (s_.1 : Value).ownBlock ∧ some k_ ≠ (s_.2.1 : Value).ownBlock ∧ some k_ ≠ (s_.2.2.1 : Value).ownBlock ∧ some k_ ≠ (s_.2.2.2.1 : Value).ownBlock ∧ some k_ ≠ (s_.2.2.2.2.1 : Value).ownBlock ∧ some k_ ≠ (s_.2.2.2.2.2 : Value).ownBlock) v104 t103) ∧ (Kd.R (Kd.int .u8) 5 w' w.heap.size (fun k_ => some k_ ≠ (v104 : Value).ownBlock ∧ some k_ ≠ (s_.2.1 : Value).ownBlock ∧ some k_ ≠ (s_.2.2.1 : Value).ownBlock ∧ some k_ ≠ (s_.2.2.2.1 : Value).ownBlock ∧ some k_ ≠ (s_.2.2.2.2.1 : Value).ownBlock ∧ some k_ ≠ (s_.2.2.2.2.2 : Value).ownBlock) s_.1 t106) ∧ (Kd.R (Kd.int .u8) 5 w' w.heap.size (fun k_ => some k_ ≠ (v104 : Value).ownBlock ∧ some k_ ≠ (s_.1 : Value).ownBlock ∧ some k_ ≠ (s_.2.2.1 : Value).ownBlock ∧ some k_ ≠ (s_.2.2.2.1 : Value).ownBlock ∧ some k_ ≠ (s_.2.2.2.2.1 : Value).ownBlock ∧ some k_ ≠ (s_.2.2.2.2.2 : Value).ownBlock) s_.2.1 t109) ∧ (Kd.R (Kd.int .u8) 5 w' w.heap.size (fun k_ => some k_ ≠ (v104 : Value).ownBlock ∧ some k_ ≠ (s_.1 : Value).ownBlock ∧ some k_ ≠ (s_.2.1 : Value).ownBlock ∧ some k_ ≠ (s_.2.2.2.1 : Value).ownBlock ∧ some k_ ≠ (s_.2.2.2.2.1 : Value).ownBlock ∧ some k_ ≠ (s_.2.2.2.2.2 : Value).ownBlock) s_.2.2.1 t112) ∧ (Kd.R (Kd.int .u8) 5 w' w.heap.size (fun k_ => some k_ ≠ (v104 : Value).ownBlock ∧ some k_ ≠ (s_.1 : Value).ownBlock ∧ some k_ ≠ (s_.2.1 : Value).ownBlock ∧ some k_ ≠ (s_.2.2.1 : Value).ownBlock ∧ some k_ ≠ (s_.2.2.2.2.1 : Value).ownBlock ∧ some k_ ≠ (s_.2.2.2.2.2 : Value).ownBlock) s_.2.2.2.1 t115) ∧ (Kd.R (Kd.int .u8) 5 w' w.heap.size (fun k_ => some k_ ≠ (v104 : Value).ownBlock ∧ some k_ ≠ (s_.1 : Value).ownBlock ∧ some k_ ≠ (s_.2.1 : Value).ownBlock ∧ some k_ ≠ (s_.2.2.1 : Value).ownBlock ∧ some k_ ≠ (s_.2.2.2.1 : Value).ownBlock ∧ some k_ ≠ (s_.2.2.2.2.2 : Value).ownBlock) s_.2.2.2.2.1 t118) ∧ (Kd.R (Kd.int .u8) 5 w' w.heap.size (fun k_ => some k_ ≠ (v104 : Value).ownBlock ∧ some k_ ≠ (s_.1 : Value).ownBlock ∧ some k_ ≠ (s_.2.1 : Value).ownBlock ∧ some k_ ≠ (s_.2.2.1 : Value).ownBlock ∧ some k_ ≠ (s_.2.2.2.1 : Value).ownBlock ∧ some k_ ≠ (s_.2.2.2.2.1 : Value).ownBlock) s_.2.2.2.2.2 t121) ∧ (Below w.heap.size w w')) ?_ ?_
             rotate_left
             ·intro hJ3_6_7_13_14_17_18_25_26_29_30_37_38
              refine join_ (σ := Value × Value × Value × Value × Value × Value × Value) 8 packPuts_d10 (fun s_ => [(26, .string (strOfNums t103)), (29, s_.1), (30, .string (strOfNums t106)), (36, s_.2.1), (37, .string (strOfNums t109)), (40, s_.2.2.1), (41, .string (strOfNums t112)), (48, s_.2.2.2.1), (49, .string (strOfNums t115)), (52, s_.2.2.2.2.1), (53, .string (strOfNums t118)), (60, s_.2.2.2.2.2.1), (64, s_.2.2.2.2.2.2), (31, .string ((strOfNums l0) ++ (strOfNums t106))), (32, .bool true), (33, .bool true), (34, .slice A0 l0.length c0), (35, .slice A2 l2.length c2), (38, .string (strOfNums l0)), (39, .slice A2 l2.length c2), (42, .string ((strOfNums l0) ++ (strOfNums t112))), (43, .bool true), (44, .bool true), (45, .bool true), (46, .slice A0 l0.length c0), (47, .bool a3), (50, .string (strOfNums l0)), (51, .bool a3), (54, .string ((strOfNums l0) ++ (strOfNums t118))), (55, .bool true), (56, .bool true), (57, .bool true), (58, .slice A0 l0.length c0), (59, .int .i64 a4), (62, .slice A0 l0.length c0), (63, .int .i64 a4)]) (fun s_ w' => (Kd.R (Kd.int .u8) 5 w' w.heap.size (fun k_ => some k_ ≠ (s_.1 : Value).ownBlock ∧ some k_ ≠ (s_.2.1 : Value).ownBlock ∧ some k_ ≠ (s_.2.2.1 : Value).ownBlock ∧ some k_ ≠ (s_.2.2.2.1 : Value).ownBlock ∧ some k_ ≠ (s_.2.2.2.2.1 : Value).ownBlock ∧ some k_ ≠ (s_.2.2.2.2.2.1 : Value).ownBlock ∧ some k_ ≠ (s_.2.2.2.2.2.2 : Value).ownBlock) v104 t103) ∧ (Kd.R (Kd.int .u8) 5 w' w.heap.size (fun k_ => some k_ ≠ (v104 : Value).ownBlock ∧ some k_ ≠ (s_.2.1 : Value).ownBlock ∧ some k_ ≠ (s_.2.2.1 : Value).ownBlock ∧ some k_ ≠ (s_.2.2.2.1 : Value).ownBlock ∧ some k_ ≠ (s_.2.2.2.2.1 : Value).ownBlock ∧ some k_ ≠ (s_.2.2.2.2.2.1 : Value).ownBlock ∧ some k_ ≠ (s_.2.2.2.2.2.2 : Value).ownBlock) s_.1 t106) ∧ (Kd.R (Kd.int .u8) 5 w' w.heap.size (fun k_ => some k_ ≠ (v104 : Value).ownBlock ∧ some k_ ≠ (s_.1 : Value).ownBlock ∧ some k_ ≠ (s_.2.2.1 : Value).ownBlock ∧ some k_ ≠ (s_.2.2.2.1 : Value).ownBlock ∧ some k_ ≠ (s_.2.2.2.2.1 : Value).ownBlock ∧ some k_ ≠ (s_.2.2.2.2.2.1 : Value).ownBlock ∧ some k_ ≠ (s_.2.2.2.2.2.2 : Value).ownBlock) s_.2.1 t109) ∧ (Kd.R (Kd.int .u8) 5 w' w.heap.size (fun k_ => some k_ ≠ (v104 : Value).ownBlock ∧ some k_ ≠ (s_.1 : Value).ownBlock ∧ some k_ ≠ (s_.2.1 : Value).ownBlock ∧ some k_ ≠ (s_.2.2.2.1 : Value).ownBlock ∧ some k_ ≠ (s_.2.2.2.2.1 : Value).ownBlock ∧ some k_ ≠ (s_.2.2.2.2.2.1 : Value).ownBlock ∧ some k_ ≠ (s_.2.2.2.2.2.2 : Value).ownBlock) s_.2.2.1 t112) ∧ (Kd.R (Kd.int .u8) 5 w' w.heap.size (fun k_ => some k_ ≠ (v104 : Value).ownBlock ∧ some k_ ≠ (s_.1 : Value).ownBlock ∧ some k_ ≠ (s_.2.1 : Value).ownBlock ∧ some k_ ≠ (s_.2.2.1 : Value).ownBlock ∧ some k_ ≠ (s_.2.2.2.2.1 : Value).ownBlock ∧ some k_ ≠ (s_.2.2.2.2.2.1 : Value).ownBlock ∧ some k_ ≠ (s_.2.2.2.2.2.2 : Value).ownBlock) s_.2.2.2.1 t115) ∧ (Kd.R (Kd.int .u8) 5 w' w.heap.size (fun k_ => some k_ ≠ (v104 : Value).ownBlock ∧ some k_ ≠ (s_.1 : Value).ownBlock ∧ some k_ ≠ (s_.2.1 : Value).ownBlock ∧ some k_ ≠ (s_.2.2.1 : Value).ownBlock ∧ some k_ ≠ (s_.2.2.2.1 : Value).ownBlock ∧ some k_ ≠ (s_.2.2.2.2.2.1 : Value).ownBlock ∧ some k_ ≠ (s_.2.2.2.2.2.2 : Value).ownBlock) s_.2.2.2.2.1 t118) ∧ (Kd.R (Kd.int .u8) 5 w' w.heap.size (fun k_ => some k_ ≠ (v104 : Value).ownBlock ∧ some k_ ≠ (s_.1 : Value).ownBlock ∧ some k_ ≠ (s_.2.1 : Value).ownBlock ∧ some k_ ≠ (s_.2.2.1 : Value).ownBlock ∧ some k_ ≠ (s_.2.2.2.1 : Value).ownBlock ∧ some k_ ≠ (s_.2.2.2.2.1 : Value).ownBlock ∧ some k_ ≠ (s_.2.2.2.2.2.2 : Value).ownBlock) s_.2.2.2.2.2.1 t121) ∧ (Kd.R (Kd.int .u8) 5 w' w.heap.size (fun k_ => some k_ ≠ (v104 : Value).ownBlock ∧ some k_ ≠ (s_.1 : Value).ownBlock ∧ some k_ ≠ (s_.2.1 : Value).ownBlock ∧ some k_ ≠ (s_.2.2.1 : Value).ownBlock ∧ some k_ ≠ (s_.2.2.2.1 : Value).ownBlock ∧ some k_ ≠ (s_.2.2.2.2.1 : Value).ownBlock ∧ some k_ ≠ (s_.2.2.2.2.2.1 : Value).ownBlock) s_.2.2.2.2.2.2 t124) ∧ (Below w.heap.size w w')) ?_ ?_
              rotate_left
              ·intro hJ3_6_7_13_14_17_18_25_26_29_30_37_41
               refine join_ (σ := Value × Value × Value × Value × Value × Value) 9 packPuts_d11 (fun s_ => [(26, .string (strOfNums t103)), (29, s_.1), (30, .string (strOfNums t106)), (36, s_.2.1), (37, .string (strOfNums t109)), (40, s_.2.2.1), (41, .string (strOfNums t112)), (48, s_.2.2.2.1), (49, .string (strOfNums t115)), (52, s_.2.2.2.2.1), (53, .string (strOfNums t118)), (60, s_.2.2.2.2.2), (31, .string ((strOfNums l0) ++ (strOfNums t106))), (32, .bool true), (33, .bool true), (34, .slice A0 l0.length c0), (35, .slice A2 l2.length c2), (38, .string (strOfNums l0)), (39, .slice A2 l2.length c2), (42, .string ((strOfNums l0) ++ (strOfNums t112))), (43, .bool true), (44, .bool true), (45, .bool true), (46, .slice A0 l0.length c0), (47, .bool a3), (50, .string (strOfNums l0)), (51, .bool a3), (54, .string ((strOfNums l0) ++ (strOfNums t118))), (55, .bool true), (56, .bool true), (57, .bool true), (58, .slice A0 l0.length c0), (59, .int .i64 a4), (62, .slice A0 l0.length c0), (63, .int .i64 a4)]) (fun s_ w' => (Kd.R (Kd.int .u8) 5 w' w.heap.size (fun k_ => some k_ ≠ (s_.1 : Value).ownBlock ∧ some k_ ≠ (s_.2.1 : Value).ownBlock ∧ some k_ ≠ (s_.2.2.1 : Value).ownBlock ∧ some k_ ≠ (s_.2.2.2.1 : Value).ownBlock ∧ some k_ ≠ (s_.2.2.2.2.1 : Value).ownBlock ∧ some k_ ≠ (s_.2.2.2.2.2 : Value).ownBlock) v104 t103) ∧ (Kd.R (Kd.int .u8) 5 w' w.heap.size (fun k_ => some k_ ≠ (v104 : Value).ownBlock ∧ some k_ ≠ (s_.2.1 : Value).ownBlock ∧ some k_ ≠ (s_.2.2.1 : Value).ownBlock ∧ some k_ ≠ (s_.2.2.2.1 : Value).ownBlock ∧ some k_ ≠ (s_.2.2.2.2.1 : Value).ownBlock ∧ some k_ ≠ (s_.2.2.2.2.2 : Value).ownBlock) s_.1 t106) ∧ (Kd.R (Kd.int .u8) 5 w' w.heap.size (fun k_ => some k_ ≠ (v104 : Value).ownBlock ∧ some k_ ≠ (s_.1 : Value).ownBlock ∧ some k_ ≠ (s_.2.2.1 : Value).ownBlock ∧ some k_ ≠ (s_.2.2.2.1 : Value).ownBlock ∧ some k_ ≠ (s_.2.2.2.2.1 : Value).ownBlock ∧ some k_ ≠ (s_.2.2.2.2.2 : Value).ownBlock) s_.2.1 t109) ∧ (Kd.R (Kd.int .u8) 5 w' w.heap.size (fun k_ => some k_ ≠ (v104 : Value).ownBlock ∧ some k_ ≠ (s_.1 : Value).ownBlock ∧ some k_ ≠ (s_.2.1 : Value).ownBlock ∧ some k_ ≠ (s_.2.2.2.1 : Value).ownBlock ∧ some k_ ≠ (s_.2.2.2.2.1 : Value).ownBlock ∧ some k_ ≠ (s_.2.2.2.2.2 : Value).ownBlock) s_.2.2.1 t112) ∧ (Kd.R (Kd.int .u8) 5 w' w.heap.size (fun k_ => some k_ ≠ (v104 : Value).ownBlock ∧ some k_ ≠ (s_.1 : Value).ownBlock ∧ some k_ ≠ (s_.2.1 : Value).ownBlock ∧ some k_ ≠ (s_.2.2.1 : Value).ownBlock ∧ some k_ ≠ (s_.2.2.2.2.1 : Value).ownBlock ∧ some k_ ≠ (s_.2.2.2.2.2 : Value).ownBlock) s_.2.2.2.1 t115) ∧ (Kd.R (Kd.int .u8) 5 w' w.heap.size (fun k_ => some k_ ≠ (v104 : Value).ownBlock ∧ some k_ ≠ (s_.1 : Value).ownBlock ∧ some k_ ≠ (s_.2.1 : Value).ownBlock ∧ some k_ ≠ (s_.2.2.1 : Value).ownBlock ∧ some k_ ≠ (s_.2.2.2.1 : Value).ownBlock ∧ some k_ ≠ (s_.2.2.2.2.2 : Value).ownBlock) s_.2.2.2.2.1 t118) ∧ (Kd.R (Kd.int .u8) 5 w' w.heap.size (fun k_ => some k_ ≠ (v104 : Value).ownBlock ∧ some k_ ≠ (s_.1 : Value).ownBlock ∧ some k_ ≠ (s_.2.1 : Value).ownBlock ∧ some k_ ≠ (s_.2.2.1 : Value).ownBlock ∧ some k_ ≠ (s_.2.2.2.1 : Value).ownBlock ∧ some k_ ≠ (s_.2.2.2.2.1 : Value).ownBlock) s_.2.2.2.2.2 t121) ∧ (Below w.heap.size w w')) ?_ ?_
               rotate_left
               ·intro hJ3_6_7_13_14_17_18_25_26_29_30_37
                refine join_ (σ := Value × Value × Value × Value × Value) 10 packPuts_d12 (fun s_ => [(26, .string (strOfNums t103)), (29, s_.1), (30, .string (strOfNums t106)), (36, s_.2.1), (37, .string (strOfNums t109)), (40, s_.2.2.1), (41, .string (strOfNums t112)), (48, s_.2.2.2.1), (49, .string (strOfNums t115)), (52, s_.2.2.2.2), (53, .string (strOfNums t118)), (31, .string ((strOfNums l0) ++ (strOfNums t106))), (32, .bool true), (33, .bool true), (34, .slice A0 l0.length c0), (35, .slice A2 l2.length c2), (38, .string (strOfNums l0)), (39, .slice A2 l2.length c2), (42, .string ((strOfNums l0) ++ (strOfNums t112))), (43, .bool true), (44, .bool true), (45, .bool true), (46, .slice A0 l0.length c0), (47, .bool a3), (50, .string (strOfNums l0)), (51, .bool a3), (54, .string ((strOfNums l0) ++ (strOfNums t118))), (55, .bool true), (56, .bool true), (57, .bool true), (58, .slice A0 l0.length c0), (59, .int .i64 a4), (62, .slice A0 l0.length c0), (63, .int .i64 a4)]) (fun s_ w' => (Kd.R (Kd.int .u8) 5 w' w.heap.size (fun k_ => some k_ ≠ (s_.1 : Value).ownBlock ∧ some k_ ≠ (s_.2.1 : Value).ownBlock ∧ some k_ ≠ (s_.2.2.1 : Value).ownBlock ∧ some k_ ≠ (s_.2.2.2.1 : Value).ownBlock ∧ some k_ ≠ (s_.2.2.2.2 : Value).ownBlock) v104 t103) ∧ (Kd.R (Kd.int .u8) 5 w' w.heap.size (fun k_ => some k_ ≠ (v104 : Value).ownBlock ∧ some k_ ≠ (s_.2.1 : Value).ownBlock ∧ some k_ ≠ (s_.2.2.1 : Value).ownBlock ∧ some k_ ≠ (s_.2.2.2.1 : Value).ownBlock ∧ some k_ ≠ (s_.2.2.2.2 : Value).ownBlock) s_.1 t106) ∧ (Kd.R (Kd.int .u8) 5 w' w.heap.size (fun k_ => some k_ ≠ (v104 : Value).ownBlock ∧ some k_ ≠ (s_.1 : Value).ownBlock ∧ some k_ ≠ (s_.2.2.1 : Value).ownBlock ∧ some k_ ≠ (s_.2.2.2.1 : Value).ownBlock ∧ some k_ ≠ (s_.2.2.2.2 : Value).ownBlock) s_.2.1 t109) ∧ (Kd.R (Kd.int .u8) 5 w' w.heap.size (fun k_ => some k_ ≠ (v104 : Value).ownBlock ∧ some k_ ≠ (s_.1 : Value).ownBlock ∧ some k_ ≠ (s_.2.1 : Value).ownBlock ∧ some k_ ≠ (s_.2.2.2.1 : Value).ownBlock ∧ some k_ ≠ (s_.2.2.2.2 : Value).ownBlock) s_.2.2.1 t112) ∧ (Kd.R (Kd.int .u8) 5 w' w.heap.size (fun k_ => some k_ ≠ (v104 : Value).ownBlock ∧ some k_ ≠ (s_.1 : Value).ownBlock ∧ some k_ ≠ (s_.2.1 : Value).ownBlock ∧ some k_ ≠ (s_.2.2.1 : Value).ownBlock ∧ some k_ ≠ (s_.2.2.2.2 : Value).ownBlock) s_.2.2.2.1 t115) ∧ (Kd.R (Kd.int .u8) 5 w' w.heap.size (fun k_ => some k_ ≠ (v104 : Value).ownBlock ∧ some k_ ≠ (s_.1 : Value).ownBlock ∧ some k_ ≠ (s_.2.1 : Value).ownBlock ∧ some k_ ≠ (s_.2.2.1 : Value).ownBlock ∧ some k_ ≠ (s_.2.2.2.1 : Value).ownBlock) s_.2.2.2.2 t118) ∧ (Below w.heap.size w w')) ?_ ?_
                rotate_left
                ·intro hJ3_6_7_13_14_17_18_25_26_29_30
                 refine join_ (σ := Value × Value × Value × Value × Value) 19 packPuts_d13 (fun s_ => [(26, .string (strOfNums t103)), (29, s_.1), (30, .string (strOfNums t106)), (36, s_.2.1), (37, .string (strOfNums t109)), (40, s_.2.2.1), (41, .string (strOfNums t112)), (48, s_.2.2.2.1), (49, .string (strOfNums t115)), (52, s_.2.2.2.2), (31, .string ((strOfNums l0) ++ (strOfNums t106))), (32, .bool true), (33, .bool true), (34, .slice A0 l0.length c0), (35, .slice A2 l2.length c2), (38, .string (strOfNums l0)), (39, .slice A2 l2.length c2), (42, .string ((strOfNums l0) ++ (strOfNums t112))), (43, .bool true), (44, .bool true), (45, .bool true), (46, .slice A0 l0.length c0), (47, .bool a3), (50, .string (strOfNums l0)), (51, .bool a3)]) (fun s_ w' => (Kd.R (Kd.int .u8) 5 w' w.heap.size (fun k_ => some k_ ≠ (s_.1 : Value).ownBlock ∧ some k_ ≠ (s_.2.1 : Value).ownBlock ∧ some k_ ≠ (s_.2.2.1 : Value).ownBlock ∧ some k_ ≠ (s_.2.2.2.1 : Value).ownBlock ∧ some k_ ≠ (s_.2.2.2.2 : Value).ownBlock) v104 t103) ∧ (Kd.R (Kd.int .u8) 5 w' w.heap.size (fun k_ => some k_ ≠ (v104 : Value).ownBlock ∧ some k_ ≠ (s_.2.1 : Value).ownBlock ∧ some k_ ≠ (s_.2.2.1 : Value).ownBlock ∧ some k_ ≠ (s_.2.2.2.1 : Value).ownBlock ∧ some k_ ≠ (s_.2.2.2.2 : Value).ownBlock) s_.1 t106) ∧ (Kd.R (Kd.int .u8) 5 w' w.heap.size (fun k_ => some k_ ≠ (v104 : Value).ownBlock ∧ some k_ ≠ (s_.1 : Value).ownBlock ∧ some k_ ≠ (s_.2.2.1 : Value).ownBlock ∧ some k_ ≠ (s_.2.2.2.1 : Value).ownBlock ∧ some k_ ≠ (s_.2.2.2.2 : Value).ownBlock) s_.2.1 t109) ∧ (Kd.R (Kd.int .u8) 5 w' w.heap.size (fun k_ => some k_ ≠ (v104 : Value).ownBlock ∧ some k_ ≠ (s_.1 : Value).ownBlock ∧ some k_ ≠ (s_.2.1 : Value).ownBlock ∧ some k_ ≠ (s_.2.2.2.1 : Value).ownBlock ∧ some k_ ≠ (s_.2.2.2.2 : Value).ownBlock) s_.2.2.1 t112) ∧ (Kd.R (Kd.int .u8) 5 w' w.heap.size (fun k_ => some k_ ≠ (v104 : Value).ownBlock ∧ some k_ ≠ (s_.1 : Value).ownBlock ∧ some k_ ≠ (s_.2.1 : Value).ownBlock ∧ some k_ ≠ (s_.2.2.1 : Value).ownBlock ∧ some k_ ≠ (s_.2.2.2.2 : Value).ownBlock) s_.2.2.2.1 t115) ∧ (Kd.R (Kd.int .u8) 5 w' w.heap.size (fun k_ => some k_ ≠ (v104 : Value).ownBlock ∧ some k_ ≠ (s_.1 : Value).ownBlock ∧ some k_ ≠ (s_.2.1 : Value).ownBlock ∧ some k_ ≠ (s_.2.2.1 : Value).ownBlock ∧ some k_ ≠ (s_.2.2.2.1 : Value).ownBlock) s_.2.2.2.2 t118) ∧ (Below w.heap.size w w')) ?_ ?_
                 rotate_left
                 ·intro hJ3_6_7_13_14_17_18_25_26_29
                  refine join_ (σ := Value × Value × Value × Value × Value) 18 packPuts_d14 (fun s_ => [(26, .string (strOfNums t103)), (29, s_.1), (30, .string (strOfNums t106)), (36, s_.2.1), (37, .string (strOfNums t109)), (40, s_.2.2.1), (41, .string (strOfNums t112)), (48, s_.2.2.2.1), (52, s_.2.2.2.2), (53, .string (strOfNums t118)), (31, .string ((strOfNums l0) ++ (strOfNums t106))), (32, .bool true), (33, .bool true), (34, .slice A0 l0.length c0), (35, .slice A2 l2.length c2), (38, .string (strOfNums l0)), (39, .slice A2 l2.length c2), (42, .string ((strOfNums l0) ++ (strOfNums t112))), (43, .bool true), (44, .bool true), (45, .bool true), (46, .slice A0 l0.length c0), (47, .bool a3), (50, .string (strOfNums l0)), (51, .bool a3), (54, .string ((strOfNums l0) ++ (strOfNums t118)))]) (fun s_ w' => (Kd.R (Kd.int .u8) 5 w' w.heap.size (fun k_ => some k_ ≠ (s_.1 : Value).ownBlock ∧ some k_ ≠ (s_.2.1 : Value).ownBlock ∧ some k_ ≠ (s_.2.2.1 : Value).ownBlock ∧ some k_ ≠ (s_.2.2.2.1 : Value).ownBlock ∧ some k_ ≠ (s_.2.2.2.2 : Value).ownBlock) v104 t103) ∧ (Kd.R (Kd.int .u8) 5 w' w.heap.size (fun k_ => some k_ ≠ (v104 : Value).ownBlock ∧ some k_ ≠ (s_.2.1 : Value).ownBlock ∧ some k_ ≠ (s_.2.2.1 : Value).ownBlock ∧ some k_ ≠ (s_.2.2.2.1 : Value).ownBlock ∧ some k_ ≠ (s_.2.2.2.2 : Value).ownBlock) s_.1 t106) ∧ (Kd.R (Kd.int .u8) 5 w' w.heap.size (fun k_ => some k_ ≠ (v104 : Value).ownBlock ∧ some k_ ≠ (s_.1 : Value).ownBlock ∧ some k_ ≠ (s_.2.2.1 : Value).ownBlock ∧ some k_ ≠ (s_.2.2.2.1 : Value).ownBlock ∧ some k_ ≠ (s_.2.2.2.2 : Value).ownBlock) s_.2.1 t109) ∧ (Kd.R (Kd.int .u8) 5 w' w.heap.size (fun k_ => some k_ ≠ (v104 : Value).ownBlock ∧ some k_ ≠ (s_.1 : Value).ownBlock ∧ some k_ ≠ (s_.2.1 : Value).ownBlock ∧ some k_ ≠ (s_.2.2.2.1 : Value).ownBlock ∧ some k_ ≠ (s_.2.2.2.2 : Value).ownBlock) s_.2.2.1 t112) ∧ (Kd.R (Kd.int .u8) 5 w' w.heap.size (fun k_ => some k_ ≠ (v104 : Value).ownBlock ∧ some k_ ≠ (s_.1 : Value).ownBlock ∧ some k_ ≠ (s_.2.1 : Value).ownBlock ∧ some k_ ≠ (s_.2.2.1 : Value).ownBlock ∧ some k_ ≠ (s_.2.2.2.2 : Value).ownBlock) s_.2.2.2.1 t115) ∧ (Kd.R (Kd.int .u8) 5 w' w.heap.size (fun k_ => some k_ ≠ (v104 : Value).ownBlock ∧ some k_ ≠ (s_.1 : Value).ownBlock ∧ some k_ ≠ (s_.2.1 : Value).ownBlock ∧ some k_ ≠ (s_.2.2.1 : Value).ownBlock ∧ some k_ ≠ (s_.2.2.2.1 : Value).ownBlock) s_.2.2.2.2 t118) ∧ (Below w.heap.size w w')) ?_ ?_
                  rotate_left
                  ·intro hJ3_6_7_13_14_17_18_25_29_30
                   refine join_ (σ := Value × Value × Value × Value) 20 packPuts_d15 (fun s_ => [(26, .string (strOfNums t103)), (29, s_.1), (30, .string (strOfNums t106)), (36, s_.2.1), (37, .string (strOfNums t109)), (40, s_.2.2.1), (41, .string (strOfNums t112)), (48, s_.2.2.2), (49, .string (strOfNums t115)), (31, .string ((strOfNums l0) ++ (strOfNums t106))), (32, .bool true), (33, .bool true), (34, .slice A0 l0.length c0), (35, .slice A2 l2.length c2), (38, .string (strOfNums l0)), (39, .slice A2 l2.length c2), (42, .string ((strOfNums l0) ++ (strOfNums t112))), (43, .bool true), (44, .bool true), (45, .bool true), (46, .slice A0 l0.length c0), (47, .bool a3), (50, .string (strOfNums l0)), (51, .bool a3)]) (fun s_ w' => (Kd.R (Kd.int .u8) 5 w' w.heap.size (fun k_ => some k_ ≠ (s_.1 : Value).ownBlock ∧ some k_ ≠ (s_.2.1 : Value).ownBlock ∧ some k_ ≠ (s_.2.2.1 : Value).ownBlock ∧ some k_ ≠ (s_.2.2.2 : Value).ownBlock) v104 t103) ∧ (Kd.R (Kd.int .u8) 5 w' w.heap.size (fun k_ => some k_ ≠ (v104 : Value).ownBlock ∧ some k_ ≠ (s_.2.1 : Value).ownBlock ∧ some k_ ≠ (s_.2.2.1 : Value).ownBlock ∧ some k_ ≠ (s_.2.2.2 : Value).ownBlock) s_.1 t106) ∧ (Kd.R (Kd.int .u8) 5 w' w.heap.size (fun k_ => some k_ ≠ (v104 : Value).ownBlock ∧ some k_ ≠ (s_.1 : Value).ownBlock ∧ some k_ ≠ (s_.2.2.1 : Value).ownBlock ∧ some k_ ≠ (s_.2.2.2 : Value).ownBlock) s_.2.1 t109) ∧ (Kd.R (Kd.int .u8) 5 w' w.heap.size (fun k_ => some k_ ≠ (v104 : Value).ownBlock ∧ some k_ ≠ (s_.1 : Value).ownBlock ∧ some k_ ≠ (s_.2.1 : Value).ownBlock ∧ some k_ ≠ (s_.2.2.2 : Value).ownBlock) s_.2.2.1 t112) ∧ (Kd.R (Kd.int .u8) 5 w' w.heap.size (fun k_ => some k_ ≠ (v104 : Value).ownBlock ∧ some k_ ≠ (s_.1 : Value).ownBlock ∧ some k_ ≠ (s_.2.1 : Value).ownBlock ∧ some k_ ≠ (s_.2.2.1 : Value).ownBlock) s_.2.2.2 t115) ∧ (Below w.heap.size w w')) ?_ ?_
                   rotate_left
                   ·intro hJ3_6_7_13_14_17_18_25_26
                    refine join_ (σ := Value × Value × Value × Value × Value) 20 packPuts_d16 (fun s_ => [(26, .string (strOfNums t103)), (29, s_.1), (30, .string (strOfNums t106)), (36, s_.2.1), (37, .string (strOfNums t109)), (40, s_.2.2.1), (41, .string (strOfNums t112)), (48, s_.2.2.2.1), (52, s_.2.2.2.2), (31, .string ((strOfNums l0) ++ (strOfNums t106))), (32, .bool true), (33, .bool true), (34, .slice A0 l0.length c0), (35, .slice A2 l2.length c2), (38, .string (strOfNums l0)), (39, .slice A2 l2.length c2), (42, .string ((strOfNums l0) ++ (strOfNums t112))), (43, .bool true), (44, .bool true), (45, .bool true), (46, .slice A0 l0.length c0), (47, .bool a3), (50, .string (strOfNums l0)), (51, .bool a3)]) (fun s_ w' => (Kd.R (Kd.int .u8) 5 w' w.heap.size (fun k_ => some k_ ≠ (s_.1 : Value).ownBlock ∧ some k_ ≠ (s_.2.1 : Value).ownBlock ∧ some k_ ≠ (s_.2.2.1 : Value).ownBlock ∧ some k_ ≠ (s_.2.2.2.1 : Value).ownBlock ∧ some k_ ≠ (s_.2.2.2.2 : Value).ownBlock) v104 t103) ∧ (Kd.R (Kd.int .u8) 5 w' w.heap.size (fun k_ => some k_ ≠ (v104 : Value).ownBlock ∧ some k_ ≠ (s_.2.1 : Value).ownBlock ∧ some k_ ≠ (s_.2.2.1 : Value).ownBlock ∧ some k_ ≠ (s_.2.2.2.1 : Value).ownBlock ∧ some k_ ≠ (s_.2.2.2.2 : Value).ownBlock) s_.1 t106) ∧ (Kd.R (Kd.int .u8) 5 w' w.heap.size (fun k_ => some k_ ≠ (v104 : Value).ownBlock ∧ some k_ ≠ (s_.1 : Value).ownBlock ∧ some k_ ≠ (s_.2.2.1 : Value).ownBlock ∧ some k_ ≠ (s_.2.2.2.1 : Value).ownBlock ∧ some k_ ≠ (s_.2.2.2.2 : Value).ownBlock) s_.2.1 t109) ∧ (Kd.R (Kd.int .u8) 5 w' w.heap.size (fun k_ => some k_ ≠ (v104 : Value).ownBlock ∧ some k_ ≠ (s_.1 : Value).ownBlock ∧ some k_ ≠ (s_.2.1 : Value).ownBlock ∧ some k_ ≠ (s_.2.2.2.1 : Value).ownBlock ∧ some k_ ≠ (s_.2.2.2.2 : Value).ownBlock) s_.2.2.1 t112) ∧ (Kd.R (Kd.int .u8) 5 w' w.heap.size (fun k_ => some k_ ≠ (v104 : Value).ownBlock ∧ some k_ ≠ (s_.1 : Value).ownBlock ∧ some k_ ≠ (s_.2.1 : Value).ownBlock ∧ some k_ ≠ (s_.2.2.1 : Value).ownBlock ∧ some k_ ≠ (s_.2.2.2.2 : Value).ownBlock) s_.2.2.2.1 t115) ∧ (Kd.R (Kd.int .u8) 5 w' w.heap.size (fun k_ => some k_ ≠ (v104 : Value).ownBlock ∧ some k_ ≠ (s_.1 : Value).ownBlock ∧ some k_ ≠ (s_.2.1 : Value).ownBlock ∧ some k_ ≠ (s_.2.2.1 : Value).ownBlock ∧ some k_ ≠ (s_.2.2.2.1 : Value).ownBlock) s_.2.2.2.2 t118) ∧ (Below w.heap.size w w')) ?_ ?_
                    rotate_left
                    ·intro hJ3_6_7_13_14_17_18_25_29
                     refine join_ (σ := Value × Value × Value × Value) 21 packPuts_d17 (fun s_ => [(26, .string (strOfNums t103)), (29, s_.1), (30, .string (strOfNums t106)), (36, s_.2.1), (37, .string (strOfNums t109)), (40, s_.2.2.1), (41, .string (strOfNums t112)), (48, s_.2.2.2), (31, .string ((strOfNums l0) ++ (strOfNums t106))), (32, .bool true), (33, .bool true), (34, .slice A0 l0.length c0), (35, .slice A2 l2.length c2), (38, .string (strOfNums l0)), (39, .slice A2 l2.length c2), (42, .string ((strOfNums l0) ++ (strOfNums t112))), (43, .bool true), (44, .bool true), (45, .bool true), (46, .slice A0 l0.length c0), (47, .bool a3), (50, .string (strOfNums l0)), (51, .bool a3)]) (fun s_ w' => (Kd.R (Kd.int .u8) 5 w' w.heap.size (fun k_ => some k_ ≠ (s_.1 : Value).ownBlock ∧ some k_ ≠ (s_.2.1 : Value).ownBlock ∧ some k_ ≠ (s_.2.2.1 : Value).ownBlock ∧ some k_ ≠ (s_.2.2.2 : Value).ownBlock) v104 t103) ∧ (Kd.R (Kd.int .u8) 5 w' w.heap.size (fun k_ => some k_ ≠ (v104 : Value).ownBlock ∧ some k_ ≠ (s_.2.1 : Value).ownBlock ∧ some k_ ≠ (s_.2.2.1 : Value).ownBlock ∧ some k_ ≠ (s_.2.2.2 : Value).ownBlock) s_.1 t106) ∧ (Kd.R (Kd.int .u8) 5 w' w.heap.size (fun k_ => some k_ ≠ (v104 : Value).ownBlock ∧ some k_ ≠ (s_.1 : Value).ownBlock ∧ some k_ ≠ (s_.2.2.1 : Value).ownBlock ∧ some k_ ≠ (s_.2.2.2 : Value).ownBlock) s_.2.1 t109) ∧ (Kd.R (Kd.int .u8) 5 w' w.heap.size (fun k_ => some k_ ≠ (v104 : Value).ownBlock ∧ some k_ ≠ (s_.1 : Value).ownBlock ∧ some k_ ≠ (s_.2.1 : Value).ownBlock ∧ some k_ ≠ (s_.2.2.2 : Value).ownBlock) s_.2.2.1 t112) ∧ (Kd.R (Kd.int .u8) 5 w' w.heap.size (fun k_ => some k_ ≠ (v104 : Value).ownBlock ∧ some k_ ≠ (s_.1 : Value).ownBlock ∧ some k_ ≠ (s_.2.1 : Value).ownBlock ∧ some k_ ≠ (s_.2.2.1 : Value).ownBlock) s_.2.2.2 t115) ∧ (Below w.heap.size w w')) ?_ ?_
                     rotate_left
                     ·intro hJ3_6_7_13_14_17_18_25
                      refine join_ (σ := Value × Value × Value) 22 packPuts_d18 (fun s_ => [(26, .string (strOfNums t103)), (29, s_.1), (30, .string (strOfNums t106)), (36, s_.2.1), (37, .string (strOfNums t109)), (40, s_.2.2), (41, .string (strOfNums t112)), (31, .string ((strOfNums l0) ++ (strOfNums t106))), (32, .bool true), (33, .bool true), (34, .slice A0 l0.length c0), (35, .slice A2 l2.length c2), (38, .string (strOfNums l0)), (39, .slice A2 l2.length c2), (42, .string ((strOfNums l0) ++ (strOfNums t112))), (43, .bool true), (44, .bool true), (45, .bool true), (46, .slice A0 l0.length c0), (47, .bool a3), (50, .string (strOfNums l0)), (51, .bool a3)]) (fun s_ w' => (Kd.R (Kd.int .u8) 5 w' w.heap.size (fun k_ => some k_ ≠ (s_.1 : Value).ownBlock ∧ some k_ ≠ (s_.2.1 : Value).ownBlock ∧ some k_ ≠ (s_.2.2 : Value).ownBlock) v104 t103) ∧ (Kd.R (Kd.int .u8) 5 w' w.heap.size (fun k_ => some k_ ≠ (v104 : Value).ownBlock ∧ some k_ ≠ (s_.2.1 : Value).ownBlock ∧ some k_ ≠ (s_.2.2 : Value).ownBlock) s_.1 t106) ∧ (Kd.R (Kd.int .u8) 5 w' w.heap.size (fun k_ => some k_ ≠ (v104 : Value).ownBlock ∧ some k_ ≠ (s_.1 : Value).ownBlock ∧ some k_ ≠ (s_.2.2 : Value).ownBlock) s_.2.1 t109) ∧ (Kd.R (Kd.int .u8) 5 w' w.heap.size (fun k_ => some k_ ≠ (v104 : Value).ownBlock ∧ some k_ ≠ (s_.1 : Value).ownBlock ∧ some k_ ≠ (s_.2.1 : Value).ownBlock) s_.2.2 t112) ∧ (Below w.heap.size w w')) ?_ ?_
                      rotate_left
                      ·intro hJ3_6_7_13_14_17_18
                       refine join_ (σ := Value × Value × Value) 31 packPuts_d19 (fun s_ => [(26, .string (strOfNums t103)), (29, s_.1), (30, .string (strOfNums t106)), (36, s_.2.1), (37, .string (strOfNums t109)), (40, s_.2.2), (31, .string ((strOfNums l0) ++ (strOfNums t106))), (32, .bool true), (33, .bool true), (34, .slice A0 l0.length c0), (35, .slice A2 l2.length c2), (38, .string (strOfNums l0)), (39, .slice A2 l2.length c2)]) (fun s_ w' => (Kd.R (Kd.int .u8) 5 w' w.heap.size (fun k_ => some k_ ≠ (s_.1 : Value).ownBlock ∧ some k_ ≠ (s_.2.1 : Value).ownBlock ∧ some k_ ≠ (s_.2.2 : Value).ownBlock) v104 t103) ∧ (Kd.R (Kd.int .u8) 5 w' w.heap.size (fun k_ => some k_ ≠ (v104 : Value).ownBlock ∧ some k_ ≠ (s_.2.1 : Value).ownBlock ∧ some k_ ≠ (s_.2.2 : Value).ownBlock) s_.1 t106) ∧ (Kd.R (Kd.int .u8) 5 w' w.heap.size (fun k_ => some k_ ≠ (v104 : Value).ownBlock ∧ some k_ ≠ (s_.1 : Value).ownBlock ∧ some k_ ≠ (s_.2.2 : Value).ownBlock) s_.2.1 t109) ∧ (Kd.R (Kd.int .u8) 5 w' w.heap.size (fun k_ => some k_ ≠ (v104 : Value).ownBlock ∧ some k_ ≠ (s_.1 : Value).ownBlock ∧ some k_ ≠ (s_.2.1 : Value).ownBlock) s_.2.2 t112) ∧ (Below w.heap.size w w')) ?_ ?_
                       rotate_left
                       ·intro hJ3_6_7_13_14_17
                        refine join_ (σ := Value × Value × Value) 30 packPuts_d20 (fun s_ => [(26, .string (strOfNums t103)), (29, s_.1), (30, .string (strOfNums t106)), (36, s_.2.1), (40, s_.2.2), (41, .string (strOfNums t112)), (31, .string ((strOfNums l0) ++ (strOfNums t106))), (32, .bool true), (33, .bool true), (34, .slice A0 l0.length c0), (35, .slice A2 l2.length c2), (38, .string (strOfNums l0)), (39, .slice A2 l2.length c2), (42, .string ((strOfNums l0) ++ (strOfNums t112)))]) (fun s_ w' => (Kd.R (Kd.int .u8) 5 w' w.heap.size (fun k_ => some k_ ≠ (s_.1 : Value).ownBlock ∧ some k_ ≠ (s_.2.1 : Value).ownBlock ∧ some k_ ≠ (s_.2.2 : Value).ownBlock) v104 t103) ∧ (Kd.R (Kd.int .u8) 5 w' w.heap.size (fun k_ => some k_ ≠ (v104 : Value).ownBlock ∧ some k_ ≠ (s_.2.1 : Value).ownBlock ∧ some k_ ≠ (s_.2.2 : Value).ownBlock) s_.1 t106) ∧ (Kd.R (Kd.int .u8) 5 w' w.heap.size (fun k_ => some k_ ≠ (v104 : Value).ownBlock ∧ some k_ ≠ (s_.1 : Value).ownBlock ∧ some k_ ≠ (s_.2.2 : Value).ownBlock) s_.2.1 t109) ∧ (Kd.R (Kd.int .u8) 5 w' w.heap.size (fun k_ => some k_ ≠ (v104 : Value).ownBlock ∧ some k_ ≠ (s_.1 : Value).ownBlock ∧ some k_ ≠ (s_.2.1 : Value).ownBlock) s_.2.2 t112) ∧ (Below w.heap.size w w')) ?_ ?_
                        rotate_left
                        ·intro hJ3_6_7_13_17_18
                         refine join_ (σ := Value × Value) 32 packPuts_d21 (fun s_ => [(26, .string (strOfNums t103)), (29, s_.1), (30, .string (strOfNums t106)), (36, s_.2), (37, .string (strOfNums t109)), (31, .string ((strOfNums l0) ++ (strOfNums t106))), (32, .bool true), (33, .bool true), (34, .slice A0 l0.length c0), (35, .slice A2 l2.length c2), (38, .string (strOfNums l0)), (39, .slice A2 l2.length c2)]) (fun s_ w' => (Kd.R (Kd.int .u8) 5 w' w.heap.size (fun k_ => some k_ ≠ (s_.1 : Value).ownBlock ∧ some k_ ≠ (s_.2 : Value).ownBlock) v104 t103) ∧ (Kd.R (Kd.int .u8) 5 w' w.heap.size (fun k_ => some k_ ≠ (v104 : Value).ownBlock ∧ some k_ ≠ (s_.2 : Value).ownBlock) s_.1 t106) ∧ (Kd.R (Kd.int .u8) 5 w' w.heap.size (fun k_ => some k_ ≠ (v104 : Value).ownBlock ∧ some k_ ≠ (s_.1 : Value).ownBlock) s_.2 t109) ∧ (Below w.heap.size w w')) ?_ ?_
                         rotate_left
                         ·intro hJ3_6_7_13_14
                          refine join_ (σ := Value × Value × Value) 32 packPuts_d22 (fun s_ => [(26, .string (strOfNums t103)), (29, s_.1), (30, .string (strOfNums t106)), (36, s_.2.1), (40, s_.2.2), (31, .string ((strOfNums l0) ++ (strOfNums t106))), (32, .bool true), (33, .bool true), (34, .slice A0 l0.length c0), (35, .slice A2 l2.length c2), (38, .string (strOfNums l0)), (39, .slice A2 l2.length c2)]) (fun s_ w' => (Kd.R (Kd.int .u8) 5 w' w.heap.size (fun k_ => some k_ ≠ (s_.1 : Value).ownBlock ∧ some k_ ≠ (s_.2.1 : Value).ownBlock ∧ some k_ ≠ (s_.2.2 : Value).ownBlock) v104 t103) ∧ (Kd.R (Kd.int .u8) 5 w' w.heap.size (fun k_ => some k_ ≠ (v104 : Value).ownBlock ∧ some k_ ≠ (s_.2.1 : Value).ownBlock ∧ some k_ ≠ (s_.2.2 : Value).ownBlock) s_.1 t106) ∧ (Kd.R (Kd.int .u8) 5 w' w.heap.size (fun k_ => some k_ ≠ (v104 : Value).ownBlock ∧ some k_ ≠ (s_.1 : Value).ownBlock ∧ some k_ ≠ (s_.2.2 : Value).ownBlock) s_.2.1 t109) ∧ (Kd.R (Kd.int .u8) 5 w' w.heap.size (fun k_ => some k_ ≠ (v104 : Value).ownBlock ∧ some k_ ≠ (s_.1 : Value).ownBlock ∧ some k_ ≠ (s_.2.1 : Value).ownBlock) s_.2.2 t112) ∧ (Below w.heap.size w w')) ?_ ?_
                          rotate_left
                          ·intro hJ3_6_7_13_17
                           refine join_ (σ := Value × Value) 33 packPuts_d23 (fun s_ => [(26, .string (strOfNums t103)), (29, s_.1), (30, .string (strOfNums t106)), (36, s_.2), (31, .string ((strOfNums l0) ++ (strOfNums t106))), (32, .bool true), (33, .bool true), (34, .slice A0 l0.length c0), (35, .slice A2 l2.length c2), (38, .string (strOfNums l0)), (39, .slice A2 l2.length c2)]) (fun s_ w' => (Kd.R (Kd.int .u8) 5 w' w.heap.size (fun k_ => some k_ ≠ (s_.1 : Value).ownBlock ∧ some k_ ≠ (s_.2 : Value).ownBlock) v104 t103) ∧ (Kd.R (Kd.int .u8) 5 w' w.heap.size (fun k_ => some k_ ≠ (v104 : Value).ownBlock ∧ some k_ ≠ (s_.2 : Value).ownBlock) s_.1 t106) ∧ (Kd.R (Kd.int .u8) 5 w' w.heap.size (fun k_ => some k_ ≠ (v104 : Value).ownBlock ∧ some k_ ≠ (s_.1 : Value).ownBlock) s_.2 t109) ∧ (Below w.heap.size w w')) ?_ ?_
                           rotate_left
                           ·intro hJ3_6_7_13
                            refine join_ (σ := Value) 34 packPuts_d24 (fun s_ => [(26, .string (strOfNums t103)), (29, s_), (30, .string (strOfNums t106)), (31, .string ((strOfNums l0) ++ (strOfNums t106))), (32, .bool true), (33, .bool true), (34, .slice A0 l0.length c0), (35, .slice A2 l2.length c2), (38, .string (strOfNums l0)), (39, .slice A2 l2.length c2)]) (fun s_ w' => (Kd.R (Kd.int .u8) 5 w' w.heap.size (fun k_ => some k_ ≠ (s_ : Value).ownBlock) v104 t103) ∧ (Kd.R (Kd.int .u8) 5 w' w.heap.size (fun k_ => some k_ ≠ (v104 : Value).ownBlock) s_ t106) ∧ (Below w.heap.size w w')) ?_ ?_
                            rotate_left
                            ·intro hJ3_6_7
                             refine join_ (σ := Value) 42 packPuts_d25 (fun s_ => [(26, .string (strOfNums t103)), (29, s_)]) (fun s_ w' => (Kd.R (Kd.int .u8) 5 w' w.heap.size (fun k_ => some k_ ≠ (s_ : Value).ownBlock) v104 t103) ∧ (Kd.R (Kd.int .u8) 5 w' w.heap.size (fun k_ => some k_ ≠ (v104 : Value).ownBlock) s_ t106) ∧ (Below w.heap.size w w')) ?_ ?_
                             rotate_left
                             ·intro hJ3_6
                              refine join_ (σ := Value) 41 packPuts_d26 (fun s_ => [(29, s_), (30, .string (strOfNums t106)), (31, .string ((strOfNums l0) ++ (strOfNums t106)))]) (fun s_ w' => (Kd.R (Kd.int .u8) 5 w' w.heap.size (fun k_ => some k_ ≠ (s_ : Value).ownBlock) v104 t103) ∧ (Kd.R (Kd.int .u8) 5 w' w.heap.size (fun k_ => some k_ ≠ (v104 : Value).ownBlock) s_ t106) ∧ (Below w.heap.size w w')) ?_ ?_
                              rotate_left
                              ·intro hJ6_7
                               refine join_ (σ := Unit) 43 packPuts_d27 (fun s_ => [(26, .string (strOfNums t103))]) (fun s_ w' => (Kd.R (Kd.int .u8) 5 w' w.heap.size (fun _ => True) v104 t103) ∧ (Below w.heap.size w w')) ?_ ?_
                               rotate_left
                               ·intro hJ3
                                refine join_ (σ := Value) 43 packPuts_d28 (fun s_ => [(29, s_)]) (fun s_ w' => (Kd.R (Kd.int .u8) 5 w' w.heap.size (fun k_ => some k_ ≠ (s_ : Value).ownBlock) v104 t103) ∧ (Kd.R (Kd.int .u8) 5 w' w.heap.size (fun k_ => some k_ ≠ (v104 : Value).ownBlock) s_ t106) ∧ (Below w.heap.size w w')) ?_ ?_
                                rotate_left
                                ·intro hJ6
                                 refine two_ (i := 3) (j := 6) (Ni := some 26) (Nj := some 29) packPuts_d27 packPuts_d28 rfl rfl rfl rfl (two_of HT_.out (by kernel_rfl)) (by decide) (by decide) (fun K hK => ?_) (fun K hK => ?_)
                                 ·skip
                                  have hcv31 := own_string (P := Try.prog) Try.underlying22 Try.underlying5 Try.underlying9 (Kd.own_of_R HO105.out); have hcv31d := fun m_ => own_string (P := Try.prog) Try.underlying22 Try.underlying5 Try.underlying9 (pw_own_drewN (Kd.own_of_R HO105.out) m_)
                                  refine value_ (w1 := ?_) (v := ?_) (by rfl) rfl ?_ ?_
                                  rotate_left 2
                                  ·go_simp
                                   constructor
                                   ·rfl
                                   ·rfl
                                  clear hcv31 hcv31d
                                  refine hK.out _ _ trivial (fun hHeld => ?_)
                                  clear hK K
                                  refine norm_ (a' := ?_) ?_ ?_
                                  rotate_left
                                  ·show Act.put _ (some 26) _ = _
                                   simp only [Act.put, pq6, pq7, pq8, i64_w, i32_w]
                                   rfl
                                  exact norm_ (by first | (simp only [putAll, Act.put, pq6, pq7, pq8]; done) | (simp only [putAll, Act.put, pq6, pq7, pq8]; rfl)) (hJ3 () _ ⟨(by (with_reducible repeat (first | apply pq0 | apply pq1 | apply pq2)); exact HO105.out), (by repeat (first | exact HB.out | apply pq3 | apply pq4 | apply pq5))⟩)
                                 ·skip
                                  refine goes_ Try.func27 (by kernel_rfl) rfl #[.int .i64 a1] (by rfl) rfl rfl (by (try simp only [List.map_toArray, List.map_cons, List.map_nil]); first | done | rfl | (simp only [List.length_drop, List.length_take]; rfl)) ?_
                                  with_reducible refine (revetmentref01_Int.calls k a1 t106 _ A13.out).mono ?_
                                  rintro e w31 ⟨v107, rfl, ho0, hb⟩
                                  refine ⟨_, rfl, ?_⟩
                                  have n0_ := am (Kd.R_elder' (by (with_reducible repeat (first | apply pq0 | apply pq1 | apply pq2)); exact HO105.out) (Kd.R_base ho0) hb)
                                  have n1_ := am (Kd.R_lower (Kd.R_new' ho0 (Kd.R_lt (by (with_reducible repeat (first | apply pq0 | apply pq1 | apply pq2)); exact HO105.out))) (below_size (by repeat (first | exact HB.out | apply pq3 | apply pq4 | apply pq5))))
                                  have n2_ := am (below_step (by repeat (first | exact HB.out | apply pq3 | apply pq4 | apply pq5)) hb)
                                  clear HO105
                                  clear HB
                                  have HO105 := n0_
                                  have HO108 := n1_
                                  have HB := n2_
                                  clear n0_ n1_ n2_
                                  (try clear hb)
                                  (try clear hb2)
                                  (try clear hk)
                                  (try clear hi)
                                  (try clear ho0)
                                  refine hK.out _ _ trivial (fun hHeld => ?_)
                                  clear hK K
                                  refine norm_ (a' := ?_) ?_ ?_
                                  rotate_left
                                  ·show Act.put _ (some 29) _ = _
                                   simp only [Act.put, pq6, pq7, pq8, i64_w, i32_w]
                                   rfl
                                  exact norm_ (by first | (simp only [putAll, Act.put, pq6, pq7, pq8]; done) | (simp only [putAll, Act.put, pq6, pq7, pq8]; rfl)) (hJ6 (v107) _ ⟨(by (with_reducible repeat (first | apply pq0 | apply pq1 | apply pq2)); exact Kd.R_mono HO105.out (fun _ hk => hk.2)), (by (with_reducible repeat (first | apply pq0 | apply pq1 | apply pq2)); exact Kd.R_mono HO108.out (fun _ hk => hk.2)), (by repeat (first | exact HB.out | apply pq3 | apply pq4 | apply pq5))⟩)
                                ·skip
                                 rintro v107 w32 ⟨h0_, h1_, h2_⟩
                                 have n0_ : Aside0 (Kd.R (Kd.int .u8) 5 w32 w.heap.size (fun k_ => some k_ ≠ (v107 : Value).ownBlock) v104 t103) := ⟨h0_⟩
                                 have n1_ : Aside0 (Kd.R (Kd.int .u8) 5 w32 w.heap.size (fun k_ => some k_ ≠ (v104 : Value).ownBlock) v107 t106) := ⟨h1_⟩
                                 have n2_ : Aside0 (Below w.heap.size w w32) := ⟨h2_⟩
                                 clear HB
                                 clear h0_ h1_ h2_
                                 have HO105 := n0_
                                 have HO108 := n1_
                                 have HB := n2_
                                 clear n0_ n1_ n2_
                                 have hHeld := trivial
                                 refine norm_ (a' := ?_) ?_ ?_
                                 rotate_left
                                 ·simp only [putAll, Act.put, pq6, pq7, pq8]
                                  rfl
                                 refine two_ (i := 3) (j := 7) (Ni := some 26) (Nj := some 30) packPuts_d25 packPuts_d29 rfl rfl rfl rfl (two_of HT_.out (by kernel_rfl)) (by decide) (by decide) (fun K hK => ?_) (fun K hK => ?_)
                                 ·skip
                                  have hcv33 := own_string (P := Try.prog) Try.underlying22 Try.underlying5 Try.underlying9 (Kd.own_of_R HO105.out); have hcv33d := fun m_ => own_string (P := Try.prog) Try.underlying22 Try.underlying5 Try.underlying9 (pw_own_drewN (Kd.own_of_R HO105.out) m_)
                                  refine value_ (w1 := ?_) (v := ?_) (by rfl) rfl ?_ ?_
                                  rotate_left 2
                                  ·go_simp
                                   constructor
                                   ·rfl
                                   ·rfl
                                  clear hcv33 hcv33d
                                  refine hK.out _ _ trivial (fun hHeld => ?_)
                                  clear hK K
                                  refine norm_ (a' := ?_) ?_ ?_
                                  rotate_left
                                  ·show Act.put _ (some 26) _ = _
                                   simp only [Act.put, pq6, pq7, pq8, i64_w, i32_w]
                                   rfl
                                  exact norm_ (by first | (simp only [putAll, Act.put, pq6, pq7, pq8]; done) | (simp only [putAll, Act.put, pq6, pq7, pq8]; rfl)) (hJ3_6 (v107) _ ⟨(by (with_reducible repeat (first | apply pq0 | apply pq1 | apply pq2)); exact HO105.out), (by (with_reducible repeat (first | apply pq0 | apply pq1 | apply pq2)); exact HO108.out), (by repeat (first | exact HB.out | apply pq3 | apply pq4 | apply pq5))⟩)
                                 ·skip
                                  have hcv33 := own_string (P := Try.prog) Try.underlying22 Try.underlying5 Try.underlying9 (Kd.own_of_R HO108.out); have hcv33d := fun m_ => own_string (P := Try.prog) Try.underlying22 Try.underlying5 Try.underlying9 (pw_own_drewN (Kd.own_of_R HO108.out) m_)
                                  refine value_ (w1 := ?_) (v := ?_) (by rfl) rfl ?_ ?_
                                  rotate_left 2
                                  ·go_simp
                                   constructor
                                   ·rfl
                                   ·rfl
                                  clear hcv33 hcv33d
                                  refine hK.out _ _ trivial (fun hHeld => ?_)
                                  clear hK K
                                  refine norm_ (a' := ?_) ?_ ?_
                                  rotate_left
                                  ·show Act.put _ (some 30) _ = _
                                   simp only [Act.put, pq6, pq7, pq8, i64_w, i32_w]
                                   rfl
                                  refine pure_ (i := 8) (N := some 31) (v := ?_) (a' := ?_) packPuts_d26 rfl rfl (any_of HT_.out (by kernel_rfl)) (fun _ _ _ h => h) (Or.inl ⟨by rfl, ?_⟩) ?_ ?_
                                  rotate_left
                                  ·intro w'
                                   go_simp
                                   with_reducible rfl
                                  rotate_left
                                  ·simp only [Act.put, pq6, pq7, pq8, i64_w, i32_w]
                                   rfl
                                  exact norm_ (by first | (simp only [putAll, Act.put, pq6, pq7, pq8]; done) | (simp only [putAll, Act.put, pq6, pq7, pq8]; rfl)) (hJ6_7 (v107) _ ⟨(by (with_reducible repeat (first | apply pq0 | apply pq1 | apply pq2)); exact HO105.out), (by (with_reducible repeat (first | apply pq0 | apply pq1 | apply pq2)); exact HO108.out), (by repeat (first | exact HB.out | apply pq3 | apply pq4 | apply pq5))⟩)
                               ·skip
                                rintro _ w32 ⟨h0_, h1_⟩
                                have n0_ : Aside0 (Kd.R (Kd.int .u8) 5 w32 w.heap.size (fun _ => True) v104 t103) := ⟨h0_⟩
                                have n1_ : Aside0 (Below w.heap.size w w32) := ⟨h1_⟩
                                clear HB
                                clear h0_ h1_
                                have HO105 := n0_
                                have HB := n1_
                                clear n0_ n1_
                                have hHeld := trivial
                                refine norm_ (a' := ?_) ?_ ?_
                                rotate_left
                                ·simp only [putAll, Act.put, pq6, pq7, pq8]
                                 rfl
                                refine one_ (i := 6) (N := some 29) packPuts_d25 rfl rfl (one_of HT_.out (by kernel_rfl)) (by decide) (fun K hK => ?_)
                                refine goes_ Try.func27 (by kernel_rfl) rfl #[.int .i64 a1] (by rfl) rfl rfl (by (try simp only [List.map_toArray, List.map_cons, List.map_nil]); first | done | rfl | (simp only [List.length_drop, List.length_take]; rfl)) ?_
                                with_reducible refine (revetmentref01_Int.calls k a1 t106 _ A13.out).mono ?_
                                rintro e w33 ⟨v107, rfl, ho0, hb⟩
                                refine ⟨_, rfl, ?_⟩
                                have n0_ := am (Kd.R_elder' (by (with_reducible repeat (first | apply pq0 | apply pq1 | apply pq2)); exact HO105.out) (Kd.R_base ho0) hb)
                                have n1_ := am (Kd.R_lower (Kd.R_new' ho0 (Kd.R_lt (by (with_reducible repeat (first | apply pq0 | apply pq1 | apply pq2)); exact HO105.out))) (below_size (by repeat (first | exact HB.out | apply pq3 | apply pq4 | apply pq5))))
                                have n2_ := am (below_step (by repeat (first | exact HB.out | apply pq3 | apply pq4 | apply pq5)) hb)
                                clear HO105
                                clear HB
                                have HO105 := n0_
                                have HO108 := n1_
                                have HB := n2_
                                clear n0_ n1_ n2_
                                (try clear hb)
                                (try clear hb2)
                                (try clear hk)
                                (try clear hi)
                                (try clear ho0)
                                refine hK.out _ _ trivial (fun hHeld => ?_)
                                clear hK K
                                refine norm_ (a' := ?_) ?_ ?_
                                rotate_left
                                ·show Act.put _ (some 29) _ = _
                                 simp only [Act.put, pq6, pq7, pq8, i64_w, i32_w]
                                 rfl
                                exact norm_ (by first | (simp only [putAll, Act.put, pq6, pq7, pq8]; done) | (simp only [putAll, Act.put, pq6, pq7, pq8]; rfl)) (hJ3_6 (v107) _ ⟨(by (with_reducible repeat (first | apply pq0 | apply pq1 | apply pq2)); exact Kd.R_mono HO105.out (fun _ hk => hk.2)), (by (with_reducible repeat (first | apply pq0 | apply pq1 | apply pq2)); exact Kd.R_mono HO108.out (fun _ hk => hk.2)), (by repeat (first | exact HB.out | apply pq3 | apply pq4 | apply pq5))⟩)
                              ·skip
                               rintro v107 w33 ⟨h0_, h1_, h2_⟩
                               have n0_ : Aside0 (Kd.R (Kd.int .u8) 5 w33 w.heap.size (fun k_ => some k_ ≠ (v107 : Value).ownBlock) v104 t103) := ⟨h0_⟩
                               have n1_ : Aside0 (Kd.R (Kd.int .u8) 5 w33 w.heap.size (fun k_ => some k_ ≠ (v104 : Value).ownBlock) v107 t106) := ⟨h1_⟩
                               have n2_ : Aside0 (Below w.heap.size w w33) := ⟨h2_⟩
                               clear HB
                               clear h0_ h1_ h2_
                               have HO105 := n0_
                               have HO108 := n1_
                               have HB := n2_
                               clear n0_ n1_ n2_
                               have hHeld := trivial
                               refine norm_ (a' := ?_) ?_ ?_
                               rotate_left
                               ·simp only [putAll, Act.put, pq6, pq7, pq8]
                                rfl
                               refine one_ (i := 3) (N := some 26) packPuts_d30 rfl rfl (one_of HT_.out (by kernel_rfl)) (by decide) (fun K hK => ?_)
                               have hcv34 := own_string (P := Try.prog) Try.underlying22 Try.underlying5 Try.underlying9 (Kd.own_of_R HO105.out); have hcv34d := fun m_ => own_string (P := Try.prog) Try.underlying22 Try.underlying5 Try.underlying9 (pw_own_drewN (Kd.own_of_R HO105.out) m_)
                               refine value_ (w1 := ?_) (v := ?_) (by rfl) rfl ?_ ?_
                               rotate_left 2
                               ·go_simp
                                constructor
                                ·rfl
                                ·rfl
                               clear hcv34 hcv34d
                               refine hK.out _ _ trivial (fun hHeld => ?_)
                               clear hK K
                               refine norm_ (a' := ?_) ?_ ?_
                               rotate_left
                               ·show Act.put _ (some 26) _ = _
                                simp only [Act.put, pq6, pq7, pq8, i64_w, i32_w]
                                rfl
                               refine pure_ (i := 9) (N := some 32) (v := ?_) (a' := ?_) packPuts_d31 rfl rfl (any_of HT_.out (by kernel_rfl)) (fun _ _ _ h => h) (Or.inl ⟨by rfl, ?_⟩) ?_ ?_
                               rotate_left
                               ·intro w'
                                go_simp
                                with_reducible rfl
                               rotate_left
                               ·simp only [Act.put, pq6, pq7, pq8, i64_w, i32_w]
                                rfl
                               refine pure_ (i := 10) (N := some 33) (v := ?_) (a' := ?_) packPuts_d32 rfl rfl (any_of HT_.out (by kernel_rfl)) (fun _ _ _ h => h) (Or.inl ⟨by rfl, ?_⟩) ?_ ?_
                               rotate_left
                               ·intro w'
                                go_simp
                                with_reducible rfl
                               rotate_left
                               ·simp only [Act.put, pq6, pq7, pq8, i64_w, i32_w]
                                rfl
                               refine pure_ (i := 11) (N := some 34) (v := ?_) (a' := ?_) packPuts_d33 rfl rfl (any_of HT_.out (by kernel_rfl)) (fun _ _ _ h => h) (Or.inl ⟨by rfl, ?_⟩) ?_ ?_
                               rotate_left
                               ·intro w'
                                go_simp
                                with_reducible rfl
                               rotate_left
                               ·simp only [Act.put, pq6, pq7, pq8, i64_w, i32_w]
                                rfl
                               refine pure_ (i := 12) (N := some 35) (v := ?_) (a' := ?_) packPuts_d34 rfl rfl (any_of HT_.out (by kernel_rfl)) (fun _ _ _ h => h) (Or.inl ⟨by rfl, ?_⟩) ?_ ?_
                               rotate_left
                               ·intro w'
                                go_simp
                                with_reducible rfl
                               rotate_left
                               ·simp only [Act.put, pq6, pq7, pq8, i64_w, i32_w]
                                rfl
                               refine pure_ (i := 15) (N := some 38) (v := ?_) (a' := ?_) packPuts_d35 rfl rfl (any_of HT_.out (by kernel_rfl)) (fun _ _ _ h => h) (Or.inl ⟨by rfl, ?_⟩) ?_ ?_
                               rotate_left
                               ·intro w'
                                go_simp
                                with_reducible rfl
                               rotate_left
                               ·simp only [Act.put, pq6, pq7, pq8, i64_w, i32_w]
                                rfl
                               refine pure_ (i := 16) (N := some 39) (v := ?_) (a' := ?_) packPuts_d24 rfl rfl (any_of HT_.out (by kernel_rfl)) (fun _ _ _ h => h) (Or.inl ⟨by rfl, ?_⟩) ?_ ?_
                               rotate_left
                               ·intro w'
                                go_simp
                                with_reducible rfl
                               rotate_left
                               ·simp only [Act.put, pq6, pq7, pq8, i64_w, i32_w]
                                rfl
                               exact norm_ (by first | (simp only [putAll, Act.put, pq6, pq7, pq8]; done) | (simp only [putAll, Act.put, pq6, pq7, pq8]; rfl)) (hJ3_6_7 (v107) _ ⟨(by (with_reducible repeat (first | apply pq0 | apply pq1 | apply pq2)); exact HO105.out), (by (with_reducible repeat (first | apply pq0 | apply pq1 | apply pq2)); exact HO108.out), (by repeat (first | exact HB.out | apply pq3 | apply pq4 | apply pq5))⟩)
                             ·skip
                              rintro v107 w33 ⟨h0_, h1_, h2_⟩
                              have n0_ : Aside0 (Kd.R (Kd.int .u8) 5 w33 w.heap.size (fun k_ => some k_ ≠ (v107 : Value).ownBlock) v104 t103) := ⟨h0_⟩
                              have n1_ : Aside0 (Kd.R (Kd.int .u8) 5 w33 w.heap.size (fun k_ => some k_ ≠ (v104 : Value).ownBlock) v107 t106) := ⟨h1_⟩
                              have n2_ : Aside0 (Below w.heap.size w w33) := ⟨h2_⟩
                              clear HB
                              clear h0_ h1_ h2_
                              have HO105 := n0_
                              have HO108 := n1_
                              have HB := n2_
                              clear n0_ n1_ n2_
                              have hHeld := trivial
                              refine norm_ (a' := ?_) ?_ ?_
                              rotate_left
                              ·simp only [putAll, Act.put, pq6, pq7, pq8]
                               rfl
                              refine one_ (i := 7) (N := some 30) packPuts_d36 rfl rfl (one_of HT_.out (by kernel_rfl)) (by decide) (fun K hK => ?_)
                              have hcv34 := own_string (P := Try.prog) Try.underlying22 Try.underlying5 Try.underlying9 (Kd.own_of_R HO108.out); have hcv34d := fun m_ => own_string (P := Try.prog) Try.underlying22 Try.underlying5 Try.underlying9 (pw_own_drewN (Kd.own_of_R HO108.out) m_)
                              refine value_ (w1 := ?_) (v := ?_) (by rfl) rfl ?_ ?_
                              rotate_left 2
                              ·go_simp
                               constructor
                               ·rfl
                               ·rfl
                              clear hcv34 hcv34d
                              refine hK.out _ _ trivial (fun hHeld => ?_)
                              clear hK K
                              refine norm_ (a' := ?_) ?_ ?_
                              rotate_left
                              ·show Act.put _ (some 30) _ = _
                               simp only [Act.put, pq6, pq7, pq8, i64_w, i32_w]
                               rfl
                              refine pure_ (i := 8) (N := some 31) (v := ?_) (a' := ?_) packPuts_d30 rfl rfl (any_of HT_.out (by kernel_rfl)) (fun _ _ _ h => h) (Or.inl ⟨by rfl, ?_⟩) ?_ ?_
                              rotate_left
                              ·intro w'
                               go_simp
                               with_reducible rfl
                              rotate_left
                              ·simp only [Act.put, pq6, pq7, pq8, i64_w, i32_w]
                               rfl
                              refine pure_ (i := 9) (N := some 32) (v := ?_) (a' := ?_) packPuts_d31 rfl rfl (any_of HT_.out (by kernel_rfl)) (fun _ _ _ h => h) (Or.inl ⟨by rfl, ?_⟩) ?_ ?_
                              rotate_left
                              ·intro w'
                               go_simp
                               with_reducible rfl
                              rotate_left
                              ·simp only [Act.put, pq6, pq7, pq8, i64_w, i32_w]
                               rfl
                              refine pure_ (i := 10) (N := some 33) (v := ?_) (a' := ?_) packPuts_d32 rfl rfl (any_of HT_.out (by kernel_rfl)) (fun _ _ _ h => h) (Or.inl ⟨by rfl, ?_⟩) ?_ ?_
                              rotate_left
                              ·intro w'
                               go_simp
                               with_reducible rfl
                              rotate_left
                              ·simp only [Act.put, pq6, pq7, pq8, i64_w, i32_w]
                               rfl
                              refine pure_ (i := 11) (N := some 34) (v := ?_) (a' := ?_) packPuts_d33 rfl rfl (any_of HT_.out (by kernel_rfl)) (fun _ _ _ h => h) (Or.inl ⟨by rfl, ?_⟩) ?_ ?_
                              rotate_left
                              ·intro w'
                               go_simp
                               with_reducible rfl
                              rotate_left
                              ·simp only [Act.put, pq6, pq7, pq8, i64_w, i32_w]
                               rfl
                              refine pure_ (i := 12) (N := some 35) (v := ?_) (a' := ?_) packPuts_d34 rfl rfl (any_of HT_.out (by kernel_rfl)) (fun _ _ _ h => h) (Or.inl ⟨by rfl, ?_⟩) ?_ ?_
                              rotate_left
                              ·intro w'
                               go_simp
                               with_reducible rfl
                              rotate_left
                              ·simp only [Act.put, pq6, pq7, pq8, i64_w, i32_w]
                               rfl
                              refine pure_ (i := 15) (N := some 38) (v := ?_) (a' := ?_) packPuts_d35 rfl rfl (any_of HT_.out (by kernel_rfl)) (fun _ _ _ h => h) (Or.inl ⟨by rfl, ?_⟩) ?_ ?_
                              rotate_left
                              ·intro w'
                               go_simp
                               with_reducible rfl
                              rotate_left
                              ·simp only [Act.put, pq6, pq7, pq8, i64_w, i32_w]
                               rfl
                              refine pure_ (i := 16) (N := some 39) (v := ?_) (a' := ?_) packPuts_d24 rfl rfl (any_of HT_.out (by kernel_rfl)) (fun _ _ _ h => h) (Or.inl ⟨by rfl, ?_⟩) ?_ ?_
                              rotate_left
                              ·intro w'
                               go_simp
                               with_reducible rfl
                              rotate_left
                              ·simp only [Act.put, pq6, pq7, pq8, i64_w, i32_w]
                               rfl
                              exact norm_ (by first | (simp only [putAll, Act.put, pq6, pq7, pq8]; done) | (simp only [putAll, Act.put, pq6, pq7, pq8]; rfl)) (hJ3_6_7 (v107) _ ⟨(by (with_reducible repeat (first | apply pq0 | apply pq1 | apply pq2)); exact HO105.out), (by (with_reducible repeat (first | apply pq0 | apply pq1 | apply pq2)); exact HO108.out), (by repeat (first | exact HB.out | apply pq3 | apply pq4 | apply pq5))⟩)
                            ·skip
                             rintro v107 w34 ⟨h0_, h1_, h2_⟩
                             have n0_ : Aside0 (Kd.R (Kd.int .u8) 5 w34 w.heap.size (fun k_ => some k_ ≠ (v107 : Value).ownBlock) v104 t103) := ⟨h0_⟩
                             have n1_ : Aside0 (Kd.R (Kd.int .u8) 5 w34 w.heap.size (fun k_ => some k_ ≠ (v104 : Value).ownBlock) v107 t106) := ⟨h1_⟩
                             have n2_ : Aside0 (Below w.heap.size w w34) := ⟨h2_⟩
                             clear HB
                             clear h0_ h1_ h2_
                             have HO105 := n0_
                             have HO108 := n1_
                             have HB := n2_
                             clear n0_ n1_ n2_
                             have hHeld := trivial
                             refine norm_ (a' := ?_) ?_ ?_
                             rotate_left
                             ·simp only [putAll, Act.put, pq6, pq7, pq8]
                              rfl
                             refine one_ (i := 13) (N := some 36) packPuts_d23 rfl rfl (one_of HT_.out (by kernel_rfl)) (by decide) (fun K hK => ?_)
                             refine goes_ Try.func28 (by kernel_rfl) rfl #[.slice A0 l0.length c0, .slice A2 l2.length c2] (by rfl) rfl rfl (by (try simp only [List.map_toArray, List.map_cons, List.map_nil]); first | done | rfl | (simp only [List.length_drop, List.length_take]; rfl)) ?_
                             with_reducible refine (pack_Bytes.calls k _ _ l0 _ _ l2 t109 _ ?side1 ?side2 ?side3 ?side4 A16.out).mono ?_
                             (case side1 => repeat (first | exact (Kd.C_below HR0.out HB.out) | (with_reducible refine Kd.C_alloc ?_ _) | (with_reducible refine Kd.C_drewN ?_ _) | (with_reducible refine Kd.C_drew ?_)))
                             (case side2 => exact HC0.out)
                             (case side3 => repeat (first | exact (Kd.C_below HR2.out HB.out) | (with_reducible refine Kd.C_alloc ?_ _) | (with_reducible refine Kd.C_drewN ?_ _) | (with_reducible refine Kd.C_drew ?_)))
                             (case side4 => exact HC2.out)
                             rintro e w35 ⟨v110, rfl, ho0, hb⟩
                             refine ⟨_, rfl, ?_⟩
                             have n0_ := am (Kd.R_elder' (by (with_reducible repeat (first | apply pq0 | apply pq1 | apply pq2)); exact HO105.out) (Kd.R_base ho0) hb)
                             have n1_ := am (Kd.R_elder' (by (with_reducible repeat (first | apply pq0 | apply pq1 | apply pq2)); exact HO108.out) (Kd.R_base ho0) hb)
                             have n2_ := am (Kd.R_lower (Kd.R_new' (Kd.R_new' ho0 (Kd.R_lt (by (with_reducible repeat (first | apply pq0 | apply pq1 | apply pq2)); exact HO105.out))) (Kd.R_lt (by (with_reducible repeat (first | apply pq0 | apply pq1 | apply pq2)); exact HO108.out))) (below_size (by repeat (first | exact HB.out | apply pq3 | apply pq4 | apply pq5))))
                             have n3_ := am (below_step (by repeat (first | exact HB.out | apply pq3 | apply pq4 | apply pq5)) hb)
                             clear HO105
                             clear HO108
                             clear HB
                             have HO105 := n0_
                             have HO108 := n1_
                             have HO111 := n2_
                             have HB := n3_
                             clear n0_ n1_ n2_ n3_
                             (try clear hb)
                             (try clear hb2)
                             (try clear hk)
                             (try clear hi)
                             (try clear ho0)
                             refine hK.out _ _ trivial (fun hHeld => ?_)
                             clear hK K
                             refine norm_ (a' := ?_) ?_ ?_
                             rotate_left
                             ·show Act.put _ (some 36) _ = _
                              simp only [Act.put, pq6, pq7, pq8, i64_w, i32_w]
                              rfl
                             exact norm_ (by first | (simp only [putAll, Act.put, pq6, pq7, pq8]; done) | (simp only [putAll, Act.put, pq6, pq7, pq8]; rfl)) (hJ3_6_7_13 (v107, v110) _ ⟨(by (with_reducible repeat (first | apply pq0 | apply pq1 | apply pq2)); exact HO105.out), (by (with_reducible repeat (first | apply pq0 | apply pq1 | apply pq2)); exact HO108.out), (by (with_reducible repeat (first | apply pq0 | apply pq1 | apply pq2)); exact Kd.R_mono HO111.out (fun _ hk => ⟨hk.1.2, hk.2⟩)), (by repeat (first | exact HB.out | apply pq3 | apply pq4 | apply pq5))⟩)
                           ·skip
                            rintro ⟨v107, v110⟩ w35 ⟨h0_, h1_, h2_, h3_⟩
                            have n0_ : Aside0 (Kd.R (Kd.int .u8) 5 w35 w.heap.size (fun k_ => some k_ ≠ (v107 : Value).ownBlock ∧ some k_ ≠ (v110 : Value).ownBlock) v104 t103) := ⟨h0_⟩
                            have n1_ : Aside0 (Kd.R (Kd.int .u8) 5 w35 w.heap.size (fun k_ => some k_ ≠ (v104 : Value).ownBlock ∧ some k_ ≠ (v110 : Value).ownBlock) v107 t106) := ⟨h1_⟩
                            have n2_ : Aside0 (Kd.R (Kd.int .u8) 5 w35 w.heap.size (fun k_ => some k_ ≠ (v104 : Value).ownBlock ∧ some k_ ≠ (v107 : Value).ownBlock) v110 t109) := ⟨h2_⟩
                            have n3_ : Aside0 (Below w.heap.size w w35) := ⟨h3_⟩
                            clear HB
                            clear h0_ h1_ h2_ h3_
                            have HO105 := n0_
                            have HO108 := n1_
                            have HO111 := n2_
                            have HB := n3_
                            clear n0_ n1_ n2_ n3_
                            have hHeld := trivial
                            refine norm_ (a' := ?_) ?_ ?_
                            rotate_left
                            ·simp only [putAll, Act.put, pq6, pq7, pq8]
                             rfl
                            refine two_ (i := 14) (j := 17) (Ni := some 37) (Nj := some 40) packPuts_d21 packPuts_d22 rfl rfl rfl rfl (two_of HT_.out (by kernel_rfl)) (by decide) (by decide) (fun K hK => ?_) (fun K hK => ?_)
                            ·skip
                             have hcv36 := own_string (P := Try.prog) Try.underlying22 Try.underlying5 Try.underlying9 (Kd.own_of_R HO111.out); have hcv36d := fun m_ => own_string (P := Try.prog) Try.underlying22 Try.underlying5 Try.underlying9 (pw_own_drewN (Kd.own_of_R HO111.out) m_)
                             refine value_ (w1 := ?_) (v := ?_) (by rfl) rfl ?_ ?_
                             rotate_left 2
                             ·go_simp
                              constructor
                              ·rfl
                              ·rfl
                             clear hcv36 hcv36d
                             refine hK.out _ _ trivial (fun hHeld => ?_)
                             clear hK K
                             refine norm_ (a' := ?_) ?_ ?_
                             rotate_left
                             ·show Act.put _ (some 37) _ = _
                              simp only [Act.put, pq6, pq7, pq8, i64_w, i32_w]
                              rfl
                             exact norm_ (by first | (simp only [putAll, Act.put, pq6, pq7, pq8]; done) | (simp only [putAll, Act.put, pq6, pq7, pq8]; rfl)) (hJ3_6_7_13_14 (v107, v110) _ ⟨(by (with_reducible repeat (first | apply pq0 | apply pq1 | apply pq2)); exact HO105.out), (by (with_reducible repeat (first | apply pq0 | apply pq1 | apply pq2)); exact HO108.out), (by (with_reducible repeat (first | apply pq0 | apply pq1 | apply pq2)); exact HO111.out), (by repeat (first | exact HB.out | apply pq3 | apply pq4 | apply pq5))⟩)
                            ·skip
                             refine goes_ Try.func29 (by kernel_rfl) rfl #[.slice A2 l2.length c2] (by rfl) rfl rfl (by (try simp only [List.map_toArray, List.map_cons, List.map_nil]); first | done | rfl | (simp only [List.length_drop, List.length_take]; rfl)) ?_
                             with_reducible refine (revetmentref01_Bytes.calls k _ _ l2 t112 _ ?side1 ?side2 A17.out).mono ?_
                             (case side1 => repeat (first | exact (Kd.C_below HR2.out HB.out) | (with_reducible refine Kd.C_alloc ?_ _) | (with_reducible refine Kd.C_drewN ?_ _) | (with_reducible refine Kd.C_drew ?_)))
                             (case side2 => exact HC2.out)
                             rintro e w36 ⟨v113, rfl, ho0, hb⟩
                             refine ⟨_, rfl, ?_⟩
                             have n0_ := am (Kd.R_elder' (by (with_reducible repeat (first | apply pq0 | apply pq1 | apply pq2)); exact HO105.out) (Kd.R_base ho0) hb)
                             have n1_ := am (Kd.R_elder' (by (with_reducible repeat (first | apply pq0 | apply pq1 | apply pq2)); exact HO108.out) (Kd.R_base ho0) hb)
                             have n2_ := am (Kd.R_elder' (by (with_reducible repeat (first | apply pq0 | apply pq1 | apply pq2)); exact HO111.out) (Kd.R_base ho0) hb)
                             have n3_ := am (Kd.R_lower (Kd.R_new' (Kd.R_new' (Kd.R_new' ho0 (Kd.R_lt (by (with_reducible repeat (first | apply pq0 | apply pq1 | apply pq2)); exact HO105.out))) (Kd.R_lt (by (with_reducible repeat (first | apply pq0 | apply pq1 | apply pq2)); exact HO108.out))) (Kd.R_lt (by (with_reducible repeat (first | apply pq0 | apply pq1 | apply pq2)); exact HO111.out))) (below_size (by repeat (first | exact HB.out | apply pq3 | apply pq4 | apply pq5))))
                             have n4_ := am (below_step (by repeat (first | exact HB.out | apply pq3 | apply pq4 | apply pq5)) hb)
                             clear HO105
                             clear HO108
                             clear HO111
                             clear HB
                             have HO105 := n0_
                             have HO108 := n1_
                             have HO111 := n2_
                             have HO114 := n3_
                             have HB := n4_
                             clear n0_ n1_ n2_ n3_ n4_
                             (try clear hb)
                             (try clear hb2)
                             (try clear hk)
                             (try clear hi)
                             (try clear ho0)
                             refine hK.out _ _ trivial (fun hHeld => ?_)
                             clear hK K
                             refine norm_ (a' := ?_) ?_ ?_
                             rotate_left
                             ·show Act.put _ (some 40) _ = _
                              simp only [Act.put, pq6, pq7, pq8, i64_w, i32_w]
                              rfl
                             exact norm_ (by first | (simp only [putAll, Act.put, pq6, pq7, pq8]; done) | (simp only [putAll, Act.put, pq6, pq7, pq8]; rfl)) (hJ3_6_7_13_17 (v107, v110, v113) _ ⟨(by (with_reducible repeat (first | apply pq0 | apply pq1 | apply pq2)); exact Kd.R_mono HO105.out (fun _ hk => ⟨hk.1.1, ⟨hk.1.2, hk.2⟩⟩)), (by (with_reducible repeat (first | apply pq0 | apply pq1 | apply pq2)); exact Kd.R_mono HO108.out (fun _ hk => ⟨hk.1.1, ⟨hk.1.2, hk.2⟩⟩)), (by (with_reducible repeat (first | apply pq0 | apply pq1 | apply pq2)); exact Kd.R_mono HO111.out (fun _ hk => ⟨hk.1.1, ⟨hk.1.2, hk.2⟩⟩)), (by (with_reducible repeat (first | apply pq0 | apply pq1 | apply pq2)); exact Kd.R_mono HO114.out (fun _ hk => ⟨hk.1.1.2, ⟨hk.1.2, hk.2⟩⟩)), (by repeat (first | exact HB.out | apply pq3 | apply pq4 | apply pq5))⟩)
                          ·skip
                           rintro ⟨v107, v110, v113⟩ w36 ⟨h0_, h1_, h2_, h3_, h4_⟩
                           have n0_ : Aside0 (Kd.R (Kd.int .u8) 5 w36 w.heap.size (fun k_ => some k_ ≠ (v107 : Value).ownBlock ∧ some k_ ≠ (v110 : Value).ownBlock ∧ some k_ ≠ (v113 : Value).ownBlock) v104 t103) := ⟨h0_⟩
                           have n1_ : Aside0 (Kd.R (Kd.int .u8) 5 w36 w.heap.size (fun k_ => some k_ ≠ (v104 : Value).ownBlock ∧ some k_ ≠ (v110 : Value).ownBlock ∧ some k_ ≠ (v113 : Value).ownBlock) v107 t106) := ⟨h1_⟩
                           have n2_ : Aside0 (Kd.R (Kd.int .u8) 5 w36 w.heap.size (fun k_ => some k_ ≠ (v104 : Value).ownBlock ∧ some k_ ≠ (v107 : Value).ownBlock ∧ some k_ ≠ (v113 : Value).ownBlock) v110 t109) := ⟨h2_⟩
                           have n3_ : Aside0 (Kd.R (Kd.int .u8) 5 w36 w.heap.size (fun k_ => some k_ ≠ (v104 : Value).ownBlock ∧ some k_ ≠ (v107 : Value).ownBlock ∧ some k_ ≠ (v110 : Value).ownBlock) v113 t112) := ⟨h3_⟩
                           have n4_ : Aside0 (Below w.heap.size w w36) := ⟨h4_⟩
                           clear HB
                           clear h0_ h1_ h2_ h3_ h4_
                           have HO105 := n0_
                           have HO108 := n1_
                           have HO111 := n2_
                           have HO114 := n3_
                           have HB := n4_
                           clear n0_ n1_ n2_ n3_ n4_
                           have hHeld := trivial
                           refine norm_ (a' := ?_) ?_ ?_
                           rotate_left
                           ·simp only [putAll, Act.put, pq6, pq7, pq8]
                            rfl
                           refine two_ (i := 14) (j := 18) (Ni := some 37) (Nj := some 41) packPuts_d19 packPuts_d37 rfl rfl rfl rfl (two_of HT_.out (by kernel_rfl)) (by decide) (by decide) (fun K hK => ?_) (fun K hK => ?_)
                           ·skip
                            have hcv37 := own_string (P := Try.prog) Try.underlying22 Try.underlying5 Try.underlying9 (Kd.own_of_R HO111.out); have hcv37d := fun m_ => own_string (P := Try.prog) Try.underlying22 Try.underlying5 Try.underlying9 (pw_own_drewN (Kd.own_of_R HO111.out) m_)
                            refine value_ (w1 := ?_) (v := ?_) (by rfl) rfl ?_ ?_
                            rotate_left 2
                            ·go_simp
                             constructor
                             ·rfl
                             ·rfl
                            clear hcv37 hcv37d
                            refine hK.out _ _ trivial (fun hHeld => ?_)
                            clear hK K
                            refine norm_ (a' := ?_) ?_ ?_
                            rotate_left
                            ·show Act.put _ (some 37) _ = _
                             simp only [Act.put, pq6, pq7, pq8, i64_w, i32_w]
                             rfl
                            exact norm_ (by first | (simp only [putAll, Act.put, pq6, pq7, pq8]; done) | (simp only [putAll, Act.put, pq6, pq7, pq8]; rfl)) (hJ3_6_7_13_14_17 (v107, v110, v113) _ ⟨(by (with_reducible repeat (first | apply pq0 | apply pq1 | apply pq2)); exact HO105.out), (by (with_reducible repeat (first | apply pq0 | apply pq1 | apply pq2)); exact HO108.out), (by (with_reducible repeat (first | apply pq0 | apply pq1 | apply pq2)); exact HO111.out), (by (with_reducible repeat (first | apply pq0 | apply pq1 | apply pq2)); exact HO114.out), (by repeat (first | exact HB.out | apply pq3 | apply pq4 | apply pq5))⟩)
                           ·skip
                            have hcv37 := own_string (P := Try.prog) Try.underlying22 Try.underlying5 Try.underlying9 (Kd.own_of_R HO114.out); have hcv37d := fun m_ => own_string (P := Try.prog) Try.underlying22 Try.underlying5 Try.underlying9 (pw_own_drewN (Kd.own_of_R HO114.out) m_)
                            refine value_ (w1 := ?_) (v := ?_) (by rfl) rfl ?_ ?_
                            rotate_left 2
                            ·go_simp
                             constructor
                             ·rfl
                             ·rfl
                            clear hcv37 hcv37d
                            refine hK.out _ _ trivial (fun hHeld => ?_)
                            clear hK K
                            refine norm_ (a' := ?_) ?_ ?_
                            rotate_left
                            ·show Act.put _ (some 41) _ = _
                             simp only [Act.put, pq6, pq7, pq8, i64_w, i32_w]
                             rfl
                            refine pure_ (i := 19) (N := some 42) (v := ?_) (a' := ?_) packPuts_d20 rfl rfl (any_of HT_.out (by kernel_rfl)) (fun _ _ _ h => h) (Or.inl ⟨by rfl, ?_⟩) ?_ ?_
                            rotate_left
                            ·intro w'
                             go_simp
                             with_reducible rfl
                            rotate_left
                            ·simp only [Act.put, pq6, pq7, pq8, i64_w, i32_w]
                             rfl
                            exact norm_ (by first | (simp only [putAll, Act.put, pq6, pq7, pq8]; done) | (simp only [putAll, Act.put, pq6, pq7, pq8]; rfl)) (hJ3_6_7_13_17_18 (v107, v110, v113) _ ⟨(by (with_reducible repeat (first | apply pq0 | apply pq1 | apply pq2)); exact HO105.out), (by (with_reducible repeat (first | apply pq0 | apply pq1 | apply pq2)); exact HO108.out), (by (with_reducible repeat (first | apply pq0 | apply pq1 | apply pq2)); exact HO111.out), (by (with_reducible repeat (first | apply pq0 | apply pq1 | apply pq2)); exact HO114.out), (by repeat (first | exact HB.out | apply pq3 | apply pq4 | apply pq5))⟩)
                         ·skip
                          rintro ⟨v107, v110⟩ w36 ⟨h0_, h1_, h2_, h3_⟩
                          have n0_ : Aside0 (Kd.R (Kd.int .u8) 5 w36 w.heap.size (fun k_ => some k_ ≠ (v107 : Value).ownBlock ∧ some k_ ≠ (v110 : Value).ownBlock) v104 t103) := ⟨h0_⟩
                          have n1_ : Aside0 (Kd.R (Kd.int .u8) 5 w36 w.heap.size (fun k_ => some k_ ≠ (v104 : Value).ownBlock ∧ some k_ ≠ (v110 : Value).ownBlock) v107 t106) := ⟨h1_⟩
                          have n2_ : Aside0 (Kd.R (Kd.int .u8) 5 w36 w.heap.size (fun k_ => some k_ ≠ (v104 : Value).ownBlock ∧ some k_ ≠ (v107 : Value).ownBlock) v110 t109) := ⟨h2_⟩
                          have n3_ : Aside0 (Below w.heap.size w w36) := ⟨h3_⟩
                          clear HB
                          clear h0_ h1_ h2_ h3_
                          have HO105 := n0_
                          have HO108 := n1_
                          have HO111 := n2_
                          have HB := n3_
                          clear n0_ n1_ n2_ n3_
                          have hHeld := trivial
                          refine norm_ (a' := ?_) ?_ ?_
                          rotate_left
                          ·simp only [putAll, Act.put, pq6, pq7, pq8]
                           rfl
                          refine one_ (i := 17) (N := some 40) packPuts_d19 rfl rfl (one_of HT_.out (by kernel_rfl)) (by decide) (fun K hK => ?_)
                          refine goes_ Try.func29 (by kernel_rfl) rfl #[.slice A2 l2.length c2] (by rfl) rfl rfl (by (try simp only [List.map_toArray, List.map_cons, List.map_nil]); first | done | rfl | (simp only [List.length_drop, List.length_take]; rfl)) ?_
                          with_reducible refine (revetmentref01_Bytes.calls k _ _ l2 t112 _ ?side1 ?side2 A17.out).mono ?_
                          (case side1 => repeat (first | exact (Kd.C_below HR2.out HB.out) | (with_reducible refine Kd.C_alloc ?_ _) | (with_reducible refine Kd.C_drewN ?_ _) | (with_reducible refine Kd.C_drew ?_)))
                          (case side2 => exact HC2.out)
                          rintro e w37 ⟨v113, rfl, ho0, hb⟩
                          refine ⟨_, rfl, ?_⟩
                          have n0_ := am (Kd.R_elder' (by (with_reducible repeat (first | apply pq0 | apply pq1 | apply pq2)); exact HO105.out) (Kd.R_base ho0) hb)
                          have n1_ := am (Kd.R_elder' (by (with_reducible repeat (first | apply pq0 | apply pq1 | apply pq2)); exact HO108.out) (Kd.R_base ho0) hb)
                          have n2_ := am (Kd.R_elder' (by (with_reducible repeat (first | apply pq0 | apply pq1 | apply pq2)); exact HO111.out) (Kd.R_base ho0) hb)
                          have n3_ := am (Kd.R_lower (Kd.R_new' (Kd.R_new' (Kd.R_new' ho0 (Kd.R_lt (by (with_reducible repeat (first | apply pq0 | apply pq1 | apply pq2)); exact HO105.out))) (Kd.R_lt (by (with_reducible repeat (first | apply pq0 | apply pq1 | apply pq2)); exact HO108.out))) (Kd.R_lt (by (with_reducible repeat (first | apply pq0 | apply pq1 | apply pq2)); exact HO111.out))) (below_size (by repeat (first | exact HB.out | apply pq3 | apply pq4 | apply pq5))))
                          have n4_ := am (below_step (by repeat (first | exact HB.out | apply pq3 | apply pq4 | apply pq5)) hb)
                          clear HO105
                          clear HO108
                          clear HO111
                          clear HB
                          have HO105 := n0_
                          have HO108 := n1_
                          have HO111 := n2_
                          have HO114 := n3_
                          have HB := n4_
                          clear n0_ n1_ n2_ n3_ n4_
                          (try clear hb)
                          (try clear hb2)
                          (try clear hk)
                          (try clear hi)
                          (try clear ho0)
                          refine hK.out _ _ trivial (fun hHeld => ?_)
                          clear hK K
                          refine norm_ (a' := ?_) ?_ ?_
                          rotate_left
                          ·show Act.put _ (some 40) _ = _
                           simp only [Act.put, pq6, pq7, pq8, i64_w, i32_w]
                           rfl
                          exact norm_ (by first | (simp only [putAll, Act.put, pq6, pq7, pq8]; done) | (simp only [putAll, Act.put, pq6, pq7, pq8]; rfl)) (hJ3_6_7_13_14_17 (v107, v110, v113) _ ⟨(by (with_reducible repeat (first | apply pq0 | apply pq1 | apply pq2)); exact Kd.R_mono HO105.out (fun _ hk => ⟨hk.1.1, ⟨hk.1.2, hk.2⟩⟩)), (by (with_reducible repeat (first | apply pq0 | apply pq1 | apply pq2)); exact Kd.R_mono HO108.out (fun _ hk => ⟨hk.1.1, ⟨hk.1.2, hk.2⟩⟩)), (by (with_reducible repeat (first | apply pq0 | apply pq1 | apply pq2)); exact Kd.R_mono HO111.out (fun _ hk => ⟨hk.1.1, ⟨hk.1.2, hk.2⟩⟩)), (by (with_reducible repeat (first | apply pq0 | apply pq1 | apply pq2)); exact Kd.R_mono HO114.out (fun _ hk => ⟨hk.1.1.2, ⟨hk.1.2, hk.2⟩⟩)), (by repeat (first | exact HB.out | apply pq3 | apply pq4 | apply pq5))⟩)
                        ·skip
                         rintro ⟨v107, v110, v113⟩ w37 ⟨h0_, h1_, h2_, h3_, h4_⟩
                         have n0_ : Aside0 (Kd.R (Kd.int .u8) 5 w37 w.heap.size (fun k_ => some k_ ≠ (v107 : Value).ownBlock ∧ some k_ ≠ (v110 : Value).ownBlock ∧ some k_ ≠ (v113 : Value).ownBlock) v104 t103) := ⟨h0_⟩
                         have n1_ : Aside0 (Kd.R (Kd.int .u8) 5 w37 w.heap.size (fun k_ => some k_ ≠ (v104 : Value).ownBlock ∧ some k_ ≠ (v110 : Value).ownBlock ∧ some k_ ≠ (v113 : Value).ownBlock) v107 t106) := ⟨h1_⟩
                         have n2_ : Aside0 (Kd.R (Kd.int .u8) 5 w37 w.heap.size (fun k_ => some k_ ≠ (v104 : Value).ownBlock ∧ some k_ ≠ (v107 : Value).ownBlock ∧ some k_ ≠ (v113 : Value).ownBlock) v110 t109) := ⟨h2_⟩
                         have n3_ : Aside0 (Kd.R (Kd.int .u8) 5 w37 w.heap.size (fun k_ => some k_ ≠ (v104 : Value).ownBlock ∧ some k_ ≠ (v107 : Value).ownBlock ∧ some k_ ≠ (v110 : Value).ownBlock) v113 t112) := ⟨h3_⟩
                         have n4_ : Aside0 (Below w.heap.size w w37) := ⟨h4_⟩
                         clear HB
                         clear h0_ h1_ h2_ h3_ h4_
                         have HO105 := n0_
                         have HO108 := n1_
                         have HO111 := n2_
                         have HO114 := n3_
                         have HB := n4_
                         clear n0_ n1_ n2_ n3_ n4_
                         have hHeld := trivial
                         refine norm_ (a' := ?_) ?_ ?_
                         rotate_left
                         ·simp only [putAll, Act.put, pq6, pq7, pq8]
                          rfl
                         refine one_ (i := 14) (N := some 37) packPuts_d38 rfl rfl (one_of HT_.out (by kernel_rfl)) (by decide) (fun K hK => ?_)
                         have hcv38 := own_string (P := Try.prog) Try.underlying22 Try.underlying5 Try.underlying9 (Kd.own_of_R HO111.out); have hcv38d := fun m_ => own_string (P := Try.prog) Try.underlying22 Try.underlying5 Try.underlying9 (pw_own_drewN (Kd.own_of_R HO111.out) m_)
                         refine value_ (w1 := ?_) (v := ?_) (by rfl) rfl ?_ ?_
                         rotate_left 2
                         ·go_simp
                          constructor
                          ·rfl
                          ·rfl
                         clear hcv38 hcv38d
                         refine hK.out _ _ trivial (fun hHeld => ?_)
                         clear hK K
                         refine norm_ (a' := ?_) ?_ ?_
                         rotate_left
                         ·show Act.put _ (some 37) _ = _
                          simp only [Act.put, pq6, pq7, pq8, i64_w, i32_w]
                          rfl
                         refine pure_ (i := 20) (N := some 43) (v := ?_) (a' := ?_) packPuts_d39 rfl rfl (any_of HT_.out (by kernel_rfl)) (fun _ _ _ h => h) (Or.inl ⟨by rfl, ?_⟩) ?_ ?_
                         rotate_left
                         ·intro w'
                          go_simp
                          with_reducible rfl
                         rotate_left
                         ·simp only [Act.put, pq6, pq7, pq8, i64_w, i32_w]
                          rfl
                         refine pure_ (i := 21) (N := some 44) (v := ?_) (a' := ?_) packPuts_d40 rfl rfl (any_of HT_.out (by kernel_rfl)) (fun _ _ _ h => h) (Or.inl ⟨by rfl, ?_⟩) ?_ ?_
                         rotate_left
                         ·intro w'
                          go_simp
                          with_reducible rfl
                         rotate_left
                         ·simp only [Act.put, pq6, pq7, pq8, i64_w, i32_w]
                          rfl
                         refine pure_ (i := 22) (N := some 45) (v := ?_) (a' := ?_) packPuts_d41 rfl rfl (any_of HT_.out (by kernel_rfl)) (fun _ _ _ h => h) (Or.inl ⟨by rfl, ?_⟩) ?_ ?_
                         rotate_left
                         ·intro w'
                          go_simp
                          with_reducible rfl
                         rotate_left
                         ·simp only [Act.put, pq6, pq7, pq8, i64_w, i32_w]
                          rfl
                         refine pure_ (i := 23) (N := some 46) (v := ?_) (a' := ?_) packPuts_d42 rfl rfl (any_of HT_.out (by kernel_rfl)) (fun _ _ _ h => h) (Or.inl ⟨by rfl, ?_⟩) ?_ ?_
                         rotate_left
                         ·intro w'
                          go_simp
                          with_reducible rfl
                         rotate_left
                         ·simp only [Act.put, pq6, pq7, pq8, i64_w, i32_w]
                          rfl
                         refine pure_ (i := 24) (N := some 47) (v := ?_) (a' := ?_) packPuts_d43 rfl rfl (any_of HT_.out (by kernel_rfl)) (fun _ _ _ h => h) (Or.inl ⟨by rfl, ?_⟩) ?_ ?_
                         rotate_left
                         ·intro w'
                          go_simp
                          with_reducible rfl
                         rotate_left
                         ·simp only [Act.put, pq6, pq7, pq8, i64_w, i32_w]
                          rfl
                         refine pure_ (i := 27) (N := some 50) (v := ?_) (a' := ?_) packPuts_d44 rfl rfl (any_of HT_.out (by kernel_rfl)) (fun _ _ _ h => h) (Or.inl ⟨by rfl, ?_⟩) ?_ ?_
                         rotate_left
                         ·intro w'
                          go_simp
                          with_reducible rfl
                         rotate_left
                         ·simp only [Act.put, pq6, pq7, pq8, i64_w, i32_w]
                          rfl
                         refine pure_ (i := 28) (N := some 51) (v := ?_) (a' := ?_) packPuts_d18 rfl rfl (any_of HT_.out (by kernel_rfl)) (fun _ _ _ h => h) (Or.inl ⟨by rfl, ?_⟩) ?_ ?_
                         rotate_left
                         ·intro w'
                          go_simp
                          with_reducible rfl
                         rotate_left
                         ·simp only [Act.put, pq6, pq7, pq8, i64_w, i32_w]
                          rfl
                         exact norm_ (by first | (simp only [putAll, Act.put, pq6, pq7, pq8]; done) | (simp only [putAll, Act.put, pq6, pq7, pq8]; rfl)) (hJ3_6_7_13_14_17_18 (v107, v110, v113) _ ⟨(by (with_reducible repeat (first | apply pq0 | apply pq1 | apply pq2)); exact HO105.out), (by (with_reducible repeat (first | apply pq0 | apply pq1 | apply pq2)); exact HO108.out), (by (with_reducible repeat (first | apply pq0 | apply pq1 | apply pq2)); exact HO111.out), (by (with_reducible repeat (first | apply pq0 | apply pq1 | apply pq2)); exact HO114.out), (by repeat (first | exact HB.out | apply pq3 | apply pq4 | apply pq5))⟩)
                       ·skip
                        rintro ⟨v107, v110, v113⟩ w37 ⟨h0_, h1_, h2_, h3_, h4_⟩
                        have n0_ : Aside0 (Kd.R (Kd.int .u8) 5 w37 w.heap.size (fun k_ => some k_ ≠ (v107 : Value).ownBlock ∧ some k_ ≠ (v110 : Value).ownBlock ∧ some k_ ≠ (v113 : Value).ownBlock) v104 t103) := ⟨h0_⟩
                        have n1_ : Aside0 (Kd.R (Kd.int .u8) 5 w37 w.heap.size (fun k_ => some k_ ≠ (v104 : Value).ownBlock ∧ some k_ ≠ (v110 : Value).ownBlock ∧ some k_ ≠ (v113 : Value).ownBlock) v107 t106) := ⟨h1_⟩
                        have n2_ : Aside0 (Kd.R (Kd.int .u8) 5 w37 w.heap.size (fun k_ => some k_ ≠ (v104 : Value).ownBlock ∧ some k_ ≠ (v107 : Value).ownBlock ∧ some k_ ≠ (v113 : Value).ownBlock) v110 t109) := ⟨h2_⟩
                        have n3_ : Aside0 (Kd.R (Kd.int .u8) 5 w37 w.heap.size (fun k_ => some k_ ≠ (v104 : Value).ownBlock ∧ some k_ ≠ (v107 : Value).ownBlock ∧ some k_ ≠ (v110 : Value).ownBlock) v113 t112) := ⟨h3_⟩
                        have n4_ : Aside0 (Below w.heap.size w w37) := ⟨h4_⟩
                        clear HB
                        clear h0_ h1_ h2_ h3_ h4_
                        have HO105 := n0_
                        have HO108 := n1_
                        have HO111 := n2_
                        have HO114 := n3_
                        have HB := n4_
                        clear n0_ n1_ n2_ n3_ n4_
                        have hHeld := trivial
                        refine norm_ (a' := ?_) ?_ ?_
                        rotate_left
                        ·simp only [putAll, Act.put, pq6, pq7, pq8]
                         rfl
                        refine one_ (i := 18) (N := some 41) packPuts_d45 rfl rfl (one_of HT_.out (by kernel_rfl)) (by decide) (fun K hK => ?_)
                        have hcv38 := own_string (P := Try.prog) Try.underlying22 Try.underlying5 Try.underlying9 (Kd.own_of_R HO114.out); have hcv38d := fun m_ => own_string (P := Try.prog) Try.underlying22 Try.underlying5 Try.underlying9 (pw_own_drewN (Kd.own_of_R HO114.out) m_)
                        refine value_ (w1 := ?_) (v := ?_) (by rfl) rfl ?_ ?_
                        rotate_left 2
                        ·go_simp
                         constructor
                         ·rfl
                         ·rfl
                        clear hcv38 hcv38d
                        refine hK.out _ _ trivial (fun hHeld => ?_)
                        clear hK K
                        refine norm_ (a' := ?_) ?_ ?_
                        rotate_left
                        ·show Act.put _ (some 41) _ = _
                         simp only [Act.put, pq6, pq7, pq8, i64_w, i32_w]
                         rfl
                        refine pure_ (i := 19) (N := some 42) (v := ?_) (a' := ?_) packPuts_d38 rfl rfl (any_of HT_.out (by kernel_rfl)) (fun _ _ _ h => h) (Or.inl ⟨by rfl, ?_⟩) ?_ ?_
                        rotate_left
                        ·intro w'
                         go_simp
                         with_reducible rfl
                        rotate_left
                        ·simp only [Act.put, pq6, pq7, pq8, i64_w, i32_w]
                         rfl
                        refine pure_ (i := 20) (N := some 43) (v := ?_) (a' := ?_) packPuts_d39 rfl rfl (any_of HT_.out (by kernel_rfl)) (fun _ _ _ h => h) (Or.inl ⟨by rfl, ?_⟩) ?_ ?_
                        rotate_left
                        ·intro w'
                         go_simp
                         with_reducible rfl
                        rotate_left
                        ·simp only [Act.put, pq6, pq7, pq8, i64_w, i32_w]
                         rfl
                        refine pure_ (i := 21) (N := some 44) (v := ?_) (a' := ?_) packPuts_d40 rfl rfl (any_of HT_.out (by kernel_rfl)) (fun _ _ _ h => h) (Or.inl ⟨by rfl, ?_⟩) ?_ ?_
                        rotate_left
                        ·intro w'
                         go_simp
                         with_reducible rfl
                        rotate_left
                        ·simp only [Act.put, pq6, pq7, pq8, i64_w, i32_w]
                         rfl
                        refine pure_ (i := 22) (N := some 45) (v := ?_) (a' := ?_) packPuts_d41 rfl rfl (any_of HT_.out (by kernel_rfl)) (fun _ _ _ h => h) (Or.inl ⟨by rfl, ?_⟩) ?_ ?_
                        rotate_left
                        ·intro w'
                         go_simp
                         with_reducible rfl
                        rotate_left
                        ·simp only [Act.put, pq6, pq7, pq8, i64_w, i32_w]
                         rfl
                        refine pure_ (i := 23) (N := some 46) (v := ?_) (a' := ?_) packPuts_d42 rfl rfl (any_of HT_.out (by kernel_rfl)) (fun _ _ _ h => h) (Or.inl ⟨by rfl, ?_⟩) ?_ ?_
                        rotate_left
                        ·intro w'
                         go_simp
                         with_reducible rfl
                        rotate_left
                        ·simp only [Act.put, pq6, pq7, pq8, i64_w, i32_w]
                         rfl
                        refine pure_ (i := 24) (N := some 47) (v := ?_) (a' := ?_) packPuts_d43 rfl rfl (any_of HT_.out (by kernel_rfl)) (fun _ _ _ h => h) (Or.inl ⟨by rfl, ?_⟩) ?_ ?_
                        rotate_left
                        ·intro w'
                         go_simp
                         with_reducible rfl
                        rotate_left
                        ·simp only [Act.put, pq6, pq7, pq8, i64_w, i32_w]
                         rfl
                        refine pure_ (i := 27) (N := some 50) (v := ?_) (a' := ?_) packPuts_d44 rfl rfl (any_of HT_.out (by kernel_rfl)) (fun _ _ _ h => h) (Or.inl ⟨by rfl, ?_⟩) ?_ ?_
                        rotate_left
                        ·intro w'
                         go_simp
                         with_reducible rfl
                        rotate_left
                        ·simp only [Act.put, pq6, pq7, pq8, i64_w, i32_w]
                         rfl
                        refine pure_ (i := 28) (N := some 51) (v := ?_) (a' := ?_) packPuts_d18 rfl rfl (any_of HT_.out (by kernel_rfl)) (fun _ _ _ h => h) (Or.inl ⟨by rfl, ?_⟩) ?_ ?_
                        rotate_left
                        ·intro w'
                         go_simp
                         with_reducible rfl
                        rotate_left
                        ·simp only [Act.put, pq6, pq7, pq8, i64_w, i32_w]
                         rfl
                        exact norm_ (by first | (simp only [putAll, Act.put, pq6, pq7, pq8]; done) | (simp only [putAll, Act.put, pq6, pq7, pq8]; rfl)) (hJ3_6_7_13_14_17_18 (v107, v110, v113) _ ⟨(by (with_reducible repeat (first | apply pq0 | apply pq1 | apply pq2)); exact HO105.out), (by (with_reducible repeat (first | apply pq0 | apply pq1 | apply pq2)); exact HO108.out), (by (with_reducible repeat (first | apply pq0 | apply pq1 | apply pq2)); exact HO111.out), (by (with_reducible repeat (first | apply pq0 | apply pq1 | apply pq2)); exact HO114.out), (by repeat (first | exact HB.out | apply pq3 | apply pq4 | apply pq5))⟩)
                      ·skip
                       rintro ⟨v107, v110, v113⟩ w38 ⟨h0_, h1_, h2_, h3_, h4_⟩
                       have n0_ : Aside0 (Kd.R (Kd.int .u8) 5 w38 w.heap.size (fun k_ => some k_ ≠ (v107 : Value).ownBlock ∧ some k_ ≠ (v110 : Value).ownBlock ∧ some k_ ≠ (v113 : Value).ownBlock) v104 t103) := ⟨h0_⟩
                       have n1_ : Aside0 (Kd.R (Kd.int .u8) 5 w38 w.heap.size (fun k_ => some k_ ≠ (v104 : Value).ownBlock ∧ some k_ ≠ (v110 : Value).ownBlock ∧ some k_ ≠ (v113 : Value).ownBlock) v107 t106) := ⟨h1_⟩
                       have n2_ : Aside0 (Kd.R (Kd.int .u8) 5 w38 w.heap.size (fun k_ => some k_ ≠ (v104 : Value).ownBlock ∧ some k_ ≠ (v107 : Value).ownBlock ∧ some k_ ≠ (v113 : Value).ownBlock) v110 t109) := ⟨h2_⟩
                       have n3_ : Aside0 (Kd.R (Kd.int .u8) 5 w38 w.heap.size (fun k_ => some k_ ≠ (v104 : Value).ownBlock ∧ some k_ ≠ (v107 : Value).ownBlock ∧ some k_ ≠ (v110 : Value).ownBlock) v113 t112) := ⟨h3_⟩
                       have n4_ : Aside0 (Below w.heap.size w w38) := ⟨h4_⟩
                       clear HB
                       clear h0_ h1_ h2_ h3_ h4_
                       have HO105 := n0_
                       have HO108 := n1_
                       have HO111 := n2_
                       have HO114 := n3_
                       have HB := n4_
                       clear n0_ n1_ n2_ n3_ n4_
                       have hHeld := trivial
                       refine norm_ (a' := ?_) ?_ ?_
                       rotate_left
                       ·simp only [putAll, Act.put, pq6, pq7, pq8]
                        rfl
                       refine one_ (i := 25) (N := some 48) packPuts_d17 rfl rfl (one_of HT_.out (by kernel_rfl)) (by decide) (fun K hK => ?_)
                       refine goes_ Try.func30 (by kernel_rfl) rfl #[.slice A0 l0.length c0, .bool a3] (by rfl) rfl rfl (by (try simp only [List.map_toArray, List.map_cons, List.map_nil]); first | done | rfl | (simp only [List.length_drop, List.length_take]; rfl)) ?_
                       with_reducible refine (pack_Flag.calls _ _ l0 a3 t115 _ ?side1 ?side2 A20.out).mono ?_
                       (case side1 => repeat (first | exact (Kd.C_below HR0.out HB.out) | (with_reducible refine Kd.C_alloc ?_ _) | (with_reducible refine Kd.C_drewN ?_ _) | (with_reducible refine Kd.C_drew ?_)))
                       (case side2 => exact HC0.out)
                       rintro e w39 ⟨v116, rfl, ho0, hb⟩
                       refine ⟨_, rfl, ?_⟩
                       have n0_ := am (Kd.R_elder' (by (with_reducible repeat (first | apply pq0 | apply pq1 | apply pq2)); exact HO105.out) (Kd.R_base ho0) hb)
                       have n1_ := am (Kd.R_elder' (by (with_reducible repeat (first | apply pq0 | apply pq1 | apply pq2)); exact HO108.out) (Kd.R_base ho0) hb)
                       have n2_ := am (Kd.R_elder' (by (with_reducible repeat (first | apply pq0 | apply pq1 | apply pq2)); exact HO111.out) (Kd.R_base ho0) hb)
                       have n3_ := am (Kd.R_elder' (by (with_reducible repeat (first | apply pq0 | apply pq1 | apply pq2)); exact HO114.out) (Kd.R_base ho0) hb)
                       have n4_ := am (Kd.R_lower (Kd.R_new' (Kd.R_new' (Kd.R_new' (Kd.R_new' ho0 (Kd.R_lt (by (with_reducible repeat (first | apply pq0 | apply pq1 | apply pq2)); exact HO105.out))) (Kd.R_lt (by (with_reducible repeat (first | apply pq0 | apply pq1 | apply pq2)); exact HO108.out))) (Kd.R_lt (by (with_reducible repeat (first | apply pq0 | apply pq1 | apply pq2)); exact HO111.out))) (Kd.R_lt (by (with_reducible repeat (first | apply pq0 | apply pq1 | apply pq2)); exact HO114.out))) (below_size (by repeat (first | exact HB.out | apply pq3 | apply pq4 | apply pq5))))
                       have n5_ := am (below_step (by repeat (first | exact HB.out | apply pq3 | apply pq4 | apply pq5)) hb)
                       clear HO105
                       clear HO108
                       clear HO111
                       clear HO114
                       clear HB
                       have HO105 := n0_
                       have HO108 := n1_
                       have HO111 := n2_
                       have HO114 := n3_
                       have HO117 := n4_
                       have HB := n5_
                       clear n0_ n1_ n2_ n3_ n4_ n5_
                       (try clear hb)
                       (try clear hb2)
                       (try clear hk)
                       (try clear hi)
                       (try clear ho0)
                       refine hK.out _ _ trivial (fun hHeld => ?_)
                       clear hK K
                       refine norm_ (a' := ?_) ?_ ?_
                       rotate_left
                       ·show Act.put _ (some 48) _ = _
                        simp only [Act.put, pq6, pq7, pq8, i64_w, i32_w]
                        rfl
                       exact norm_ (by first | (simp only [putAll, Act.put, pq6, pq7, pq8]; done) | (simp only [putAll, Act.put, pq6, pq7, pq8]; rfl)) (hJ3_6_7_13_14_17_18_25 (v107, v110, v113, v116) _ ⟨(by (with_reducible repeat (first | apply pq0 | apply pq1 | apply pq2)); exact Kd.R_mono HO105.out (fun _ hk => ⟨hk.1.1, ⟨hk.1.2.1, ⟨hk.1.2.2, hk.2⟩⟩⟩)), (by (with_reducible repeat (first | apply pq0 | apply pq1 | apply pq2)); exact Kd.R_mono HO108.out (fun _ hk => ⟨hk.1.1, ⟨hk.1.2.1, ⟨hk.1.2.2, hk.2⟩⟩⟩)), (by (with_reducible repeat (first | apply pq0 | apply pq1 | apply pq2)); exact Kd.R_mono HO111.out (fun _ hk => ⟨hk.1.1, ⟨hk.1.2.1, ⟨hk.1.2.2, hk.2⟩⟩⟩)), (by (with_reducible repeat (first | apply pq0 | apply pq1 | apply pq2)); exact Kd.R_mono HO114.out (fun _ hk => ⟨hk.1.1, ⟨hk.1.2.1, ⟨hk.1.2.2, hk.2⟩⟩⟩)), (by (with_reducible repeat (first | apply pq0 | apply pq1 | apply pq2)); exact Kd.R_mono HO117.out (fun _ hk => ⟨hk.1.1.1.2, ⟨hk.1.1.2, ⟨hk.1.2, hk.2⟩⟩⟩)), (by repeat (first | exact HB.out | apply pq3 | apply pq4 | apply pq5))⟩)
                     ·skip
                      rintro ⟨v107, v110, v113, v116⟩ w39 ⟨h0_, h1_, h2_, h3_, h4_, h5_⟩
                      have n0_ : Aside0 (Kd.R (Kd.int .u8) 5 w39 w.heap.size (fun k_ => some k_ ≠ (v107 : Value).ownBlock ∧ some k_ ≠ (v110 : Value).ownBlock ∧ some k_ ≠ (v113 : Value).ownBlock ∧ some k_ ≠ (v116 : Value).ownBlock) v104 t103) := ⟨h0_⟩
                      have n1_ : Aside0 (Kd.R (Kd.int .u8) 5 w39 w.heap.size (fun k_ => some k_ ≠ (v104 : Value).ownBlock ∧ some k_ ≠ (v110 : Value).ownBlock ∧ some k_ ≠ (v113 : Value).ownBlock ∧ some k_ ≠ (v116 : Value).ownBlock) v107 t106) := ⟨h1_⟩
                      have n2_ : Aside0 (Kd.R (Kd.int .u8) 5 w39 w.heap.size (fun k_ => some k_ ≠ (v104 : Value).ownBlock ∧ some k_ ≠ (v107 : Value).ownBlock ∧ some k_ ≠ (v113 : Value).ownBlock ∧ some k_ ≠ (v116 : Value).ownBlock) v110 t109) := ⟨h2_⟩
                      have n3_ : Aside0 (Kd.R (Kd.int .u8) 5 w39 w.heap.size (fun k_ => some k_ ≠ (v104 : Value).ownBlock ∧ some k_ ≠ (v107 : Value).ownBlock ∧ some k_ ≠ (v110 : Value).ownBlock ∧ some k_ ≠ (v116 : Value).ownBlock) v113 t112) := ⟨h3_⟩
                      have n4_ : Aside0 (Kd.R (Kd.int .u8) 5 w39 w.heap.size (fun k_ => some k_ ≠ (v104 : Value).ownBlock ∧ some k_ ≠ (v107 : Value).ownBlock ∧ some k_ ≠ (v110 : Value).ownBlock ∧ some k_ ≠ (v113 : Value).ownBlock) v116 t115) := ⟨h4_⟩
                      have n5_ : Aside0 (Below w.heap.size w w39) := ⟨h5_⟩
                      clear HB
                      clear h0_ h1_ h2_ h3_ h4_ h5_
                      have HO105 := n0_
                      have HO108 := n1_
                      have HO111 := n2_
                      have HO114 := n3_
                      have HO117 := n4_
                      have HB := n5_
                      clear n0_ n1_ n2_ n3_ n4_ n5_
                      have hHeld := trivial
                      refine norm_ (a' := ?_) ?_ ?_
                      rotate_left
                      ·simp only [putAll, Act.put, pq6, pq7, pq8]
                       rfl
                      refine two_ (i := 26) (j := 29) (Ni := some 49) (Nj := some 52) packPuts_d15 packPuts_d16 rfl rfl rfl rfl (two_of HT_.out (by kernel_rfl)) (by decide) (by decide) (fun K hK => ?_) (fun K hK => ?_)
                      ·skip
                       have hcv40 := own_string (P := Try.prog) Try.underlying22 Try.underlying5 Try.underlying9 (Kd.own_of_R HO117.out); have hcv40d := fun m_ => own_string (P := Try.prog) Try.underlying22 Try.underlying5 Try.underlying9 (pw_own_drewN (Kd.own_of_R HO117.out) m_)
                       refine value_ (w1 := ?_) (v := ?_) (by rfl) rfl ?_ ?_
                       rotate_left 2
                       ·go_simp
                        constructor
                        ·rfl
                        ·rfl
                       clear hcv40 hcv40d
                       refine hK.out _ _ trivial (fun hHeld => ?_)
                       clear hK K
                       refine norm_ (a' := ?_) ?_ ?_
                       rotate_left
                       ·show Act.put _ (some 49) _ = _
                        simp only [Act.put, pq6, pq7, pq8, i64_w, i32_w]
                        rfl
                       exact norm_ (by first | (simp only [putAll, Act.put, pq6, pq7, pq8]; done) | (simp only [putAll, Act.put, pq6, pq7, pq8]; rfl)) (hJ3_6_7_13_14_17_18_25_26 (v107, v110, v113, v116) _ ⟨(by (with_reducible repeat (first | apply pq0 | apply pq1 | apply pq2)); exact HO105.out), (by (with_reducible repeat (first | apply pq0 | apply pq1 | apply pq2)); exact HO108.out), (by (with_reducible repeat (first | apply pq0 | apply pq1 | apply pq2)); exact HO111.out), (by (with_reducible repeat (first | apply pq0 | apply pq1 | apply pq2)); exact HO114.out), (by (with_reducible repeat (first | apply pq0 | apply pq1 | apply pq2)); exact HO117.out), (by repeat (first | exact HB.out | apply pq3 | apply pq4 | apply pq5))⟩)
                      ·skip
                       refine goes_ Try.func31 (by kernel_rfl) rfl #[.bool a3] (by rfl) rfl rfl (by (try simp only [List.map_toArray, List.map_cons, List.map_nil]); first | done | rfl | (simp only [List.length_drop, List.length_take]; rfl)) ?_
                       with_reducible refine (revetmentref01_Flag.calls a3 t118 _ A21.out).mono ?_
                       rintro e w40 ⟨v119, rfl, ho0, hb⟩
                       refine ⟨_, rfl, ?_⟩
                       have n0_ := am (Kd.R_elder' (by (with_reducible repeat (first | apply pq0 | apply pq1 | apply pq2)); exact HO105.out) (Kd.R_base ho0) hb)
                       have n1_ := am (Kd.R_elder' (by (with_reducible repeat (first | apply pq0 | apply pq1 | apply pq2)); exact HO108.out) (Kd.R_base ho0) hb)
                       have n2_ := am (Kd.R_elder' (by (with_reducible repeat (first | apply pq0 | apply pq1 | apply pq2)); exact HO111.out) (Kd.R_base ho0) hb)
                       have n3_ := am (Kd.R_elder' (by (with_reducible repeat (first | apply pq0 | apply pq1 | apply pq2)); exact HO114.out) (Kd.R_base ho0) hb)
                       have n4_ := am (Kd.R_elder' (by (with_reducible repeat (first | apply pq0 | apply pq1 | apply pq2)); exact HO117.out) (Kd.R_base ho0) hb)
                       have n5_ := am (Kd.R_lower (Kd.R_new' (Kd.R_new' (Kd.R_new' (Kd.R_new' (Kd.R_new' ho0 (Kd.R_lt (by (with_reducible repeat (first | apply pq0 | apply pq1 | apply pq2)); exact HO105.out))) (Kd.R_lt (by (with_reducible repeat (first | apply pq0 | apply pq1 | apply pq2)); exact HO108.out))) (Kd.R_lt (by (with_reducible repeat (first | apply pq0 | apply pq1 | apply pq2)); exact HO111.out))) (Kd.R_lt (by (with_reducible repeat (first | apply pq0 | apply pq1 | apply pq2)); exact HO114.out))) (Kd.R_lt (by (with_reducible repeat (first | apply pq0 | apply pq1 | apply pq2)); exact HO117.out))) (below_size (by repeat (first | exact HB.out | apply pq3 | apply pq4 | apply pq5))))
                       have n6_ := am (below_step (by repeat (first | exact HB.out | apply pq3 | apply pq4 | apply pq5)) hb)
                       clear HO105
                       clear HO108
                       clear HO111
                       clear HO114
                       clear HO117
                       clear HB
                       have HO105 := n0_
                       have HO108 := n1_
                       have HO111 := n2_
                       have HO114 := n3_
                       have HO117 := n4_
                       have HO120 := n5_
                       have HB := n6_
                       clear n0_ n1_ n2_ n3_ n4_ n5_ n6_
                       (try clear hb)
                       (try clear hb2)
                       (try clear hk)
                       (try clear hi)
                       (try clear ho0)
                       refine hK.out _ _ trivial (fun hHeld => ?_)
                       clear hK K
                       refine norm_ (a' := ?_) ?_ ?_
                       rotate_left
                       ·show Act.put _ (some 52) _ = _
                        simp only [Act.put, pq6, pq7, pq8, i64_w, i32_w]
                        rfl
                       exact norm_ (by first | (simp only [putAll, Act.put, pq6, pq7, pq8]; done) | (simp only [putAll, Act.put, pq6, pq7, pq8]; rfl)) (hJ3_6_7_13_14_17_18_25_29 (v107, v110, v113, v116, v119) _ ⟨(by (with_reducible repeat (first | apply pq0 | apply pq1 | apply pq2)); exact Kd.R_mono HO105.out (fun _ hk => ⟨hk.1.1, ⟨hk.1.2.1, ⟨hk.1.2.2.1, ⟨hk.1.2.2.2, hk.2⟩⟩⟩⟩)), (by (with_reducible repeat (first | apply pq0 | apply pq1 | apply pq2)); exact Kd.R_mono HO108.out (fun _ hk => ⟨hk.1.1, ⟨hk.1.2.1, ⟨hk.1.2.2.1, ⟨hk.1.2.2.2, hk.2⟩⟩⟩⟩)), (by (with_reducible repeat (first | apply pq0 | apply pq1 | apply pq2)); exact Kd.R_mono HO111.out (fun _ hk => ⟨hk.1.1, ⟨hk.1.2.1, ⟨hk.1.2.2.1, ⟨hk.1.2.2.2, hk.2⟩⟩⟩⟩)), (by (with_reducible repeat (first | apply pq0 | apply pq1 | apply pq2)); exact Kd.R_mono HO114.out (fun _ hk => ⟨hk.1.1, ⟨hk.1.2.1, ⟨hk.1.2.2.1, ⟨hk.1.2.2.2, hk.2⟩⟩⟩⟩)), (by (with_reducible repeat (first | apply pq0 | apply pq1 | apply pq2)); exact Kd.R_mono HO117.out (fun _ hk => ⟨hk.1.1, ⟨hk.1.2.1, ⟨hk.1.2.2.1, ⟨hk.1.2.2.2, hk.2⟩⟩⟩⟩)), (by (with_reducible repeat (first | apply pq0 | apply pq1 | apply pq2)); exact Kd.R_mono HO120.out (fun _ hk => ⟨hk.1.1.1.1.2, ⟨hk.1.1.1.2, ⟨hk.1.1.2, ⟨hk.1.2, hk.2⟩⟩⟩⟩)), (by repeat (first | exact HB.out | apply pq3 | apply pq4 | apply pq5))⟩)
                    ·skip
                     rintro ⟨v107, v110, v113, v116, v119⟩ w40 ⟨h0_, h1_, h2_, h3_, h4_, h5_, h6_⟩
                     have n0_ : Aside0 (Kd.R (Kd.int .u8) 5 w40 w.heap.size (fun k_ => some k_ ≠ (v107 : Value).ownBlock ∧ some k_ ≠ (v110 : Value).ownBlock ∧ some k_ ≠ (v113 : Value).ownBlock ∧ some k_ ≠ (v116 : Value).ownBlock ∧ some k_ ≠ (v119 : Value).ownBlock) v104 t103) := ⟨h0_⟩
                     have n1_ : Aside0 (Kd.R (Kd.int .u8) 5 w40 w.heap.size (fun k_ => some k_ ≠ (v104 : Value).ownBlock ∧ some k_ ≠ (v110 : Value).ownBlock ∧ some k_ ≠ (v113 : Value).ownBlock ∧ some k_ ≠ (v116 : Value).ownBlock ∧ some k_ ≠ (v119 : Value).ownBlock) v107 t106) := ⟨h1_⟩
                     have n2_ : Aside0 (Kd.R (Kd.int .u8) 5 w40 w.heap.size (fun k_ => some k_ ≠ (v104 : Value).ownBlock ∧ some k_ ≠ (v107 : Value).ownBlock ∧ some k_ ≠ (v113 : Value).ownBlock ∧ some k_ ≠ (v116 : Value).ownBlock ∧ some k_ ≠ (v119 : Value).ownBlock) v110 t109) := ⟨h2_⟩
                     have n3_ : Aside0 (Kd.R (Kd.int .u8) 5 w40 w.heap.size (fun k_ => some k_ ≠ (v104 : Value).ownBlock ∧ some k_ ≠ (v107 : Value).ownBlock ∧ some k_ ≠ (v110 : Value).ownBlock ∧ some k_ ≠ (v116 : Value).ownBlock ∧ some k_ ≠ (v119 : Value).ownBlock) v113 t112) := ⟨h3_⟩
                     have n4_ : Aside0 (Kd.R (Kd.int .u8) 5 w40 w.heap.size (fun k_ => some k_ ≠ (v104 : Value).ownBlock ∧ some k_ ≠ (v107 : Value).ownBlock ∧ some k_ ≠ (v110 : Value).ownBlock ∧ some k_ ≠ (v113 : Value).ownBlock ∧ some k_ ≠ (v119 : Value).ownBlock) v116 t115) := ⟨h4_⟩
                     have n5_ : Aside0 (Kd.R (Kd.int .u8) 5 w40 w.heap.size (fun k_ => some k_ ≠ (v104 : Value).ownBlock ∧ some k_ ≠ (v107 : Value).ownBlock ∧ some k_ ≠ (v110 : Value).ownBlock ∧ some k_ ≠ (v113 : Value).ownBlock ∧ some k_ ≠ (v116 : Value).ownBlock) v119 t118) := ⟨h5_⟩
                     have n6_ : Aside0 (Below w.heap.size w w40) := ⟨h6_⟩
                     clear HB
                     clear h0_ h1_ h2_ h3_ h4_ h5_ h6_
                     have HO105 := n0_
                     have HO108 := n1_
                     have HO111 := n2_
                     have HO114 := n3_
                     have HO117 := n4_
                     have HO120 := n5_
                     have HB := n6_
                     clear n0_ n1_ n2_ n3_ n4_ n5_ n6_
                     have hHeld := trivial
                     refine norm_ (a' := ?_) ?_ ?_
                     rotate_left
                     ·simp only [putAll, Act.put, pq6, pq7, pq8]
                      rfl
                     refine two_ (i := 26) (j := 30) (Ni := some 49) (Nj := some 53) packPuts_d13 packPuts_d46 rfl rfl rfl rfl (two_of HT_.out (by kernel_rfl)) (by decide) (by decide) (fun K hK => ?_) (fun K hK => ?_)
                     ·skip
                      have hcv41 := own_string (P := Try.prog) Try.underlying22 Try.underlying5 Try.underlying9 (Kd.own_of_R HO117.out); have hcv41d := fun m_ => own_string (P := Try.prog) Try.underlying22 Try.underlying5 Try.underlying9 (pw_own_drewN (Kd.own_of_R HO117.out) m_)
                      refine value_ (w1 := ?_) (v := ?_) (by rfl) rfl ?_ ?_
                      rotate_left 2
                      ·go_simp
                       constructor
                       ·rfl
                       ·rfl
                      clear hcv41 hcv41d
                      refine hK.out _ _ trivial (fun hHeld => ?_)
                      clear hK K
                      refine norm_ (a' := ?_) ?_ ?_
                      rotate_left
                      ·show Act.put _ (some 49) _ = _
                       simp only [Act.put, pq6, pq7, pq8, i64_w, i32_w]
                       rfl
                      exact norm_ (by first | (simp only [putAll, Act.put, pq6, pq7, pq8]; done) | (simp only [putAll, Act.put, pq6, pq7, pq8]; rfl)) (hJ3_6_7_13_14_17_18_25_26_29 (v107, v110, v113, v116, v119) _ ⟨(by (with_reducible repeat (first | apply pq0 | apply pq1 | apply pq2)); exact HO105.out), (by (with_reducible repeat (first | apply pq0 | apply pq1 | apply pq2)); exact HO108.out), (by (with_reducible repeat (first | apply pq0 | apply pq1 | apply pq2)); exact HO111.out), (by (with_reducible repeat (first | apply pq0 | apply pq1 | apply pq2)); exact HO114.out), (by (with_reducible repeat (first | apply pq0 | apply pq1 | apply pq2)); exact HO117.out), (by (with_reducible repeat (first | apply pq0 | apply pq1 | apply pq2)); exact HO120.out), (by repeat (first | exact HB.out | apply pq3 | apply pq4 | apply pq5))⟩)
                     ·skip
                      have hcv41 := own_string (P := Try.prog) Try.underlying22 Try.underlying5 Try.underlying9 (Kd.own_of_R HO120.out); have hcv41d := fun m_ => own_string (P := Try.prog) Try.underlying22 Try.underlying5 Try.underlying9 (pw_own_drewN (Kd.own_of_R HO120.out) m_)
                      refine value_ (w1 := ?_) (v := ?_) (by rfl) rfl ?_ ?_
                      rotate_left 2
                      ·go_simp
                       constructor
                       ·rfl
                       ·rfl
                      clear hcv41 hcv41d
                      refine hK.out _ _ trivial (fun hHeld => ?_)
                      clear hK K
                      refine norm_ (a' := ?_) ?_ ?_
                      rotate_left
                      ·show Act.put _ (some 53) _ = _
                       simp only [Act.put, pq6, pq7, pq8, i64_w, i32_w]
                       rfl
                      refine pure_ (i := 31) (N := some 54) (v := ?_) (a' := ?_) packPuts_d14 rfl rfl (any_of HT_.out (by kernel_rfl)) (fun _ _ _ h => h) (Or.inl ⟨by rfl, ?_⟩) ?_ ?_
                      rotate_left
                      ·intro w'
                       go_simp
                       with_reducible rfl
                      rotate_left
                      ·simp only [Act.put, pq6, pq7, pq8, i64_w, i32_w]
                       rfl
                      exact norm_ (by first | (simp only [putAll, Act.put, pq6, pq7, pq8]; done) | (simp only [putAll, Act.put, pq6, pq7, pq8]; rfl)) (hJ3_6_7_13_14_17_18_25_29_30 (v107, v110, v113, v116, v119) _ ⟨(by (with_reducible repeat (first | apply pq0 | apply pq1 | apply pq2)); exact HO105.out), (by (with_reducible repeat (first | apply pq0 | apply pq1 | apply pq2)); exact HO108.out), (by (with_reducible repeat (first | apply pq0 | apply pq1 | apply pq2)); exact HO111.out), (by (with_reducible repeat (first | apply pq0 | apply pq1 | apply pq2)); exact HO114.out), (by (with_reducible repeat (first | apply pq0 | apply pq1 | apply pq2)); exact HO117.out), (by (with_reducible repeat (first | apply pq0 | apply pq1 | apply pq2)); exact HO120.out), (by repeat (first | exact HB.out | apply pq3 | apply pq4 | apply pq5))⟩)
                   ·skip
                    rintro ⟨v107, v110, v113, v116⟩ w40 ⟨h0_, h1_, h2_, h3_, h4_, h5_⟩
                    have n0_ : Aside0 (Kd.R (Kd.int .u8) 5 w40 w.heap.size (fun k_ => some k_ ≠ (v107 : Value).ownBlock ∧ some k_ ≠ (v110 : Value).ownBlock ∧ some k_ ≠ (v113 : Value).ownBlock ∧ some k_ ≠ (v116 : Value).ownBlock) v104 t103) := ⟨h0_⟩
                    have n1_ : Aside0 (Kd.R (Kd.int .u8) 5 w40 w.heap.size (fun k_ => some k_ ≠ (v104 : Value).ownBlock ∧ some k_ ≠ (v110 : Value).ownBlock ∧ some k_ ≠ (v113 : Value).ownBlock ∧ some k_ ≠ (v116 : Value).ownBlock) v107 t106) := ⟨h1_⟩
                    have n2_ : Aside0 (Kd.R (Kd.int .u8) 5 w40 w.heap.size (fun k_ => some k_ ≠ (v104 : Value).ownBlock ∧ some k_ ≠ (v107 : Value).ownBlock ∧ some k_ ≠ (v113 : Value).ownBlock ∧ some k_ ≠ (v116 : Value).ownBlock) v110 t109) := ⟨h2_⟩
                    have n3_ : Aside0 (Kd.R (Kd.int .u8) 5 w40 w.heap.size (fun k_ => some k_ ≠ (v104 : Value).ownBlock ∧ some k_ ≠ (v107 : Value).ownBlock ∧ some k_ ≠ (v110 : Value).ownBlock ∧ some k_ ≠ (v116 : Value).ownBlock) v113 t112) := ⟨h3_⟩
                    have n4_ : Aside0 (Kd.R (Kd.int .u8) 5 w40 w.heap.size (fun k_ => some k_ ≠ (v104 : Value).ownBlock ∧ some k_ ≠ (v107 : Value).ownBlock ∧ some k_ ≠ (v110 : Value).ownBlock ∧ some k_ ≠ (v113 : Value).ownBlock) v116 t115) := ⟨h4_⟩
                    have n5_ : Aside0 (Below w.heap.size w w40) := ⟨h5_⟩
                    clear HB
                    clear h0_ h1_ h2_ h3_ h4_ h5_
                    have HO105 := n0_
                    have HO108 := n1_
                    have HO111 := n2_
                    have HO114 := n3_
                    have HO117 := n4_
                    have HB := n5_
                    clear n0_ n1_ n2_ n3_ n4_ n5_
                    have hHeld := trivial
                    refine norm_ (a' := ?_) ?_ ?_
                    rotate_left
                    ·simp only [putAll, Act.put, pq6, pq7, pq8]
                     rfl
                    refine one_ (i := 29) (N := some 52) packPuts_d13 rfl rfl (one_of HT_.out (by kernel_rfl)) (by decide) (fun K hK => ?_)
                    refine goes_ Try.func31 (by kernel_rfl) rfl #[.bool a3] (by rfl) rfl rfl (by (try simp only [List.map_toArray, List.map_cons, List.map_nil]); first | done | rfl | (simp only [List.length_drop, List.length_take]; rfl)) ?_
                    with_reducible refine (revetmentref01_Flag.calls a3 t118 _ A21.out).mono ?_
                    rintro e w41 ⟨v119, rfl, ho0, hb⟩
                    refine ⟨_, rfl, ?_⟩
                    have n0_ := am (Kd.R_elder' (by (with_reducible repeat (first | apply pq0 | apply pq1 | apply pq2)); exact HO105.out) (Kd.R_base ho0) hb)
                    have n1_ := am (Kd.R_elder' (by (with_reducible repeat (first | apply pq0 | apply pq1 | apply pq2)); exact HO108.out) (Kd.R_base ho0) hb)
                    have n2_ := am (Kd.R_elder' (by (with_reducible repeat (first | apply pq0 | apply pq1 | apply pq2)); exact HO111.out) (Kd.R_base ho0) hb)
                    have n3_ := am (Kd.R_elder' (by (with_reducible repeat (first | apply pq0 | apply pq1 | apply pq2)); exact HO114.out) (Kd.R_base ho0) hb)
                    have n4_ := am (Kd.R_elder' (by (with_reducible repeat (first | apply pq0 | apply pq1 | apply pq2)); exact HO117.out) (Kd.R_base ho0) hb)
                    have n5_ := am (Kd.R_lower (Kd.R_new' (Kd.R_new' (Kd.R_new' (Kd.R_new' (Kd.R_new' ho0 (Kd.R_lt (by (with_reducible repeat (first | apply pq0 | apply pq1 | apply pq2)); exact HO105.out))) (Kd.R_lt (by (with_reducible repeat (first | apply pq0 | apply pq1 | apply pq2)); exact HO108.out))) (Kd.R_lt (by (with_reducible repeat (first | apply pq0 | apply pq1 | apply pq2)); exact HO111.out))) (Kd.R_lt (by (with_reducible repeat (first | apply pq0 | apply pq1 | apply pq2)); exact HO114.out))) (Kd.R_lt (by (with_reducible repeat (first | apply pq0 | apply pq1 | apply pq2)); exact HO117.out))) (below_size (by repeat (first | exact HB.out | apply pq3 | apply pq4 | apply pq5))))
                    have n6_ := am (below_step (by repeat (first | exact HB.out | apply pq3 | apply pq4 | apply pq5)) hb)
                    clear HO105
                    clear HO108
                    clear HO111
                    clear HO114
                    clear HO117
                    clear HB
                    have HO105 := n0_
                    have HO108 := n1_
                    have HO111 := n2_
                    have HO114 := n3_
                    have HO117 := n4_
                    have HO120 := n5_
                    have HB := n6_
                    clear n0_ n1_ n2_ n3_ n4_ n5_ n6_
                    (try clear hb)
                    (try clear hb2)
                    (try clear hk)
                    (try clear hi)
                    (try clear ho0)
                    refine hK.out _ _ trivial (fun hHeld => ?_)
                    clear hK K
                    refine norm_ (a' := ?_) ?_ ?_
                    rotate_left
                    ·show Act.put _ (some 52) _ = _
                     simp only [Act.put, pq6, pq7, pq8, i64_w, i32_w]
                     rfl
                    exact norm_ (by first | (simp only [putAll, Act.put, pq6, pq7, pq8]; done) | (simp only [putAll, Act.put, pq6, pq7, pq8]; rfl)) (hJ3_6_7_13_14_17_18_25_26_29 (v107, v110, v113, v116, v119) _ ⟨(by (with_reducible repeat (first | apply pq0 | apply pq1 | apply pq2)); exact Kd.R_mono HO105.out (fun _ hk => ⟨hk.1.1, ⟨hk.1.2.1, ⟨hk.1.2.2.1, ⟨hk.1.2.2.2, hk.2⟩⟩⟩⟩)), (by (with_reducible repeat (first | apply pq0 | apply pq1 | apply pq2)); exact Kd.R_mono HO108.out (fun _ hk => ⟨hk.1.1, ⟨hk.1.2.1, ⟨hk.1.2.2.1, ⟨hk.1.2.2.2, hk.2⟩⟩⟩⟩)), (by (with_reducible repeat (first | apply pq0 | apply pq1 | apply pq2)); exact Kd.R_mono HO111.out (fun _ hk => ⟨hk.1.1, ⟨hk.1.2.1, ⟨hk.1.2.2.1, ⟨hk.1.2.2.2, hk.2⟩⟩⟩⟩)), (by (with_reducible repeat (first | apply pq0 | apply pq1 | apply pq2)); exact Kd.R_mono HO114.out (fun _ hk => ⟨hk.1.1, ⟨hk.1.2.1, ⟨hk.1.2.2.1, ⟨hk.1.2.2.2, hk.2⟩⟩⟩⟩)), (by (with_reducible repeat (first | apply pq0 | apply pq1 | apply pq2)); exact Kd.R_mono HO117.out (fun _ hk => ⟨hk.1.1, ⟨hk.1.2.1, ⟨hk.1.2.2.1, ⟨hk.1.2.2.2, hk.2⟩⟩⟩⟩)), (by (with_reducible repeat (first | apply pq0 | apply pq1 | apply pq2)); exact Kd.R_mono HO120.out (fun _ hk => ⟨hk.1.1.1.1.2, ⟨hk.1.1.1.2, ⟨hk.1.1.2, ⟨hk.1.2, hk.2⟩⟩⟩⟩)), (by repeat (first | exact HB.out | apply pq3 | apply pq4 | apply pq5))⟩)
                  ·skip
                   rintro ⟨v107, v110, v113, v116, v119⟩ w41 ⟨h0_, h1_, h2_, h3_, h4_, h5_, h6_⟩
                   have n0_ : Aside0 (Kd.R (Kd.int .u8) 5 w41 w.heap.size (fun k_ => some k_ ≠ (v107 : Value).ownBlock ∧ some k_ ≠ (v110 : Value).ownBlock ∧ some k_ ≠ (v113 : Value).ownBlock ∧ some k_ ≠ (v116 : Value).ownBlock ∧ some k_ ≠ (v119 : Value).ownBlock) v104 t103) := ⟨h0_⟩
                   have n1_ : Aside0 (Kd.R (Kd.int .u8) 5 w41 w.heap.size (fun k_ => some k_ ≠ (v104 : Value).ownBlock ∧ some k_ ≠ (v110 : Value).ownBlock ∧ some k_ ≠ (v113 : Value).ownBlock ∧ some k_ ≠ (v116 : Value).ownBlock ∧ some k_ ≠ (v119 : Value).ownBlock) v107 t106) := ⟨h1_⟩
                   have n2_ : Aside0 (Kd.R (Kd.int .u8) 5 w41 w.heap.size (fun k_ => some k_ ≠ (v104 : Value).ownBlock ∧ some k_ ≠ (v107 : Value).ownBlock ∧ some k_ ≠ (v113 : Value).ownBlock ∧ some k_ ≠ (v116 : Value).ownBlock ∧ some k_ ≠ (v119 : Value).ownBlock) v110 t109) := ⟨h2_⟩
                   have n3_ : Aside0 (Kd.R (Kd.int .u8) 5 w41 w.heap.size (fun k_ => some k_ ≠ (v104 : Value).ownBlock ∧ some k_ ≠ (v107 : Value).ownBlock ∧ some k_ ≠ (v110 : Value).ownBlock ∧ some k_ ≠ (v116 : Value).ownBlock ∧ some k_ ≠ (v119 : Value).ownBlock) v113 t112) := ⟨h3_⟩
                   have n4_ : Aside0 (Kd.R (Kd.int .u8) 5 w41 w.heap.size (fun k_ => some k_ ≠ (v104 : Value).ownBlock ∧ some k_ ≠ (v107 : Value).ownBlock ∧ some k_ ≠ (v110 : Value).ownBlock ∧ some k_ ≠ (v113 : Value).ownBlock ∧ some k_ ≠ (v119 : Value).ownBlock) v116 t115) := ⟨h4_⟩
                   have n5_ : Aside0 (Kd.R (Kd.int .u8) 5 w41 w.heap.size (fun k_ => some k_ ≠ (v104 : Value).ownBlock ∧ some k_ ≠ (v107 : Value).ownBlock ∧ some k_ ≠ (v110 : Value).ownBlock ∧ some k_ ≠ (v113 : Value).ownBlock ∧ some k_ ≠ (v116 : Value).ownBlock) v119 t118) := ⟨h5_⟩
                   have n6_ : Aside0 (Below w.heap.size w w41) := ⟨h6_⟩
                   clear HB
                   clear h0_ h1_ h2_ h3_ h4_ h5_ h6_
                   have HO105 := n0_
                   have HO108 := n1_
                   have HO111 := n2_
                   have HO114 := n3_
                   have HO117 := n4_
                   have HO120 := n5_
                   have HB := n6_
                   clear n0_ n1_ n2_ n3_ n4_ n5_ n6_
                   have hHeld := trivial
                   refine norm_ (a' := ?_) ?_ ?_
                   rotate_left
                   ·simp only [putAll, Act.put, pq6, pq7, pq8]
                    rfl
                   refine one_ (i := 26) (N := some 49) packPuts_d47 rfl rfl (one_of HT_.out (by kernel_rfl)) (by decide) (fun K hK => ?_)
                   have hcv42 := own_string (P := Try.prog) Try.underlying22 Try.underlying5 Try.underlying9 (Kd.own_of_R HO117.out); have hcv42d := fun m_ => own_string (P := Try.prog) Try.underlying22 Try.underlying5 Try.underlying9 (pw_own_drewN (Kd.own_of_R HO117.out) m_)
                   refine value_ (w1 := ?_) (v := ?_) (by rfl) rfl ?_ ?_
                   rotate_left 2
                   ·go_simp
                    constructor
                    ·rfl
                    ·rfl
                   clear hcv42 hcv42d
                   refine hK.out _ _ trivial (fun hHeld => ?_)
                   clear hK K
                   refine norm_ (a' := ?_) ?_ ?_
                   rotate_left
                   ·show Act.put _ (some 49) _ = _
                    simp only [Act.put, pq6, pq7, pq8, i64_w, i32_w]
                    rfl
                   refine pure_ (i := 32) (N := some 55) (v := ?_) (a' := ?_) packPuts_d48 rfl rfl (any_of HT_.out (by kernel_rfl)) (fun _ _ _ h => h) (Or.inl ⟨by rfl, ?_⟩) ?_ ?_
                   rotate_left
                   ·intro w'
                    go_simp
                    with_reducible rfl
                   rotate_left
                   ·simp only [Act.put, pq6, pq7, pq8, i64_w, i32_w]
                    rfl
                   refine pure_ (i := 33) (N := some 56) (v := ?_) (a' := ?_) packPuts_d49 rfl rfl (any_of HT_.out (by kernel_rfl)) (fun _ _ _ h => h) (Or.inl ⟨by rfl, ?_⟩) ?_ ?_
                   rotate_left
                   ·intro w'
                    go_simp
                    with_reducible rfl
                   rotate_left
                   ·simp only [Act.put, pq6, pq7, pq8, i64_w, i32_w]
                    rfl
                   refine pure_ (i := 34) (N := some 57) (v := ?_) (a' := ?_) packPuts_d50 rfl rfl (any_of HT_.out (by kernel_rfl)) (fun _ _ _ h => h) (Or.inl ⟨by rfl, ?_⟩) ?_ ?_
                   rotate_left
                   ·intro w'
                    go_simp
                    with_reducible rfl
                   rotate_left
                   ·simp only [Act.put, pq6, pq7, pq8, i64_w, i32_w]
                    rfl
                   refine pure_ (i := 35) (N := some 58) (v := ?_) (a' := ?_) packPuts_d51 rfl rfl (any_of HT_.out (by kernel_rfl)) (fun _ _ _ h => h) (Or.inl ⟨by rfl, ?_⟩) ?_ ?_
                   rotate_left
                   ·intro w'
                    go_simp
                    with_reducible rfl
                   rotate_left
                   ·simp only [Act.put, pq6, pq7, pq8, i64_w, i32_w]
                    rfl
                   refine pure_ (i := 36) (N := some 59) (v := ?_) (a' := ?_) packPuts_d52 rfl rfl (any_of HT_.out (by kernel_rfl)) (fun _ _ _ h => h) (Or.inl ⟨by rfl, ?_⟩) ?_ ?_
                   rotate_left
                   ·intro w'
                    go_simp
                    with_reducible rfl
                   rotate_left
                   ·simp only [Act.put, pq6, pq7, pq8, i64_w, i32_w]
                    rfl
                   refine pure_ (i := 39) (N := some 62) (v := ?_) (a' := ?_) packPuts_d53 rfl rfl (any_of HT_.out (by kernel_rfl)) (fun _ _ _ h => h) (Or.inl ⟨by rfl, ?_⟩) ?_ ?_
                   rotate_left
                   ·intro w'
                    go_simp
                    with_reducible rfl
                   rotate_left
                   ·simp only [Act.put, pq6, pq7, pq8, i64_w, i32_w]
                    rfl
                   refine pure_ (i := 40) (N := some 63) (v := ?_) (a' := ?_) packPuts_d12 rfl rfl (any_of HT_.out (by kernel_rfl)) (fun _ _ _ h => h) (Or.inl ⟨by rfl, ?_⟩) ?_ ?_
                   rotate_left
                   ·intro w'
                    go_simp
                    with_reducible rfl
                   rotate_left
                   ·simp only [Act.put, pq6, pq7, pq8, i64_w, i32_w]
                    rfl
                   exact norm_ (by first | (simp only [putAll, Act.put, pq6, pq7, pq8]; done) | (simp only [putAll, Act.put, pq6, pq7, pq8]; rfl)) (hJ3_6_7_13_14_17_18_25_26_29_30 (v107, v110, v113, v116, v119) _ ⟨(by (with_reducible repeat (first | apply pq0 | apply pq1 | apply pq2)); exact HO105.out), (by (with_reducible repeat (first | apply pq0 | apply pq1 | apply pq2)); exact HO108.out), (by (with_reducible repeat (first | apply pq0 | apply pq1 | apply pq2)); exact HO111.out), (by (with_reducible repeat (first | apply pq0 | apply pq1 | apply pq2)); exact HO114.out), (by (with_reducible repeat (first | apply pq0 | apply pq1 | apply pq2)); exact HO117.out), (by (with_reducible repeat (first | apply pq0 | apply pq1 | apply pq2)); exact HO120.out), (by repeat (first | exact HB.out | apply pq3 | apply pq4 | apply pq5))⟩)
                 ·skip
                  rintro ⟨v107, v110, v113, v116, v119⟩ w41 ⟨h0_, h1_, h2_, h3_, h4_, h5_, h6_⟩
                  have n0_ : Aside0 (Kd.R (Kd.int .u8) 5 w41 w.heap.size (fun k_ => some k_ ≠ (v107 : Value).ownBlock ∧ some k_ ≠ (v110 : Value).ownBlock ∧ some k_ ≠ (v113 : Value).ownBlock ∧ some k_ ≠ (v116 : Value).ownBlock ∧ some k_ ≠ (v119 : Value).ownBlock) v104 t103) := ⟨h0_⟩
                  have n1_ : Aside0 (Kd.R (Kd.int .u8) 5 w41 w.heap.size (fun k_ => some k_ ≠ (v104 : Value).ownBlock ∧ some k_ ≠ (v110 : Value).ownBlock ∧ some k_ ≠ (v113 : Value).ownBlock ∧ some k_ ≠ (v116 : Value).ownBlock ∧ some k_ ≠ (v119 : Value).ownBlock) v107 t106) := ⟨h1_⟩
                  have n2_ : Aside0 (Kd.R (Kd.int .u8) 5 w41 w.heap.size (fun k_ => some k_ ≠ (v104 : Value).ownBlock ∧ some k_ ≠ (v107 : Value).ownBlock ∧ some k_ ≠ (v113 : Value).ownBlock ∧ some k_ ≠ (v116 : Value).ownBlock ∧ some k_ ≠ (v119 : Value).ownBlock) v110 t109) := ⟨h2_⟩
                  have n3_ : Aside0 (Kd.R (Kd.int .u8) 5 w41 w.heap.size (fun k_ => some k_ ≠ (v104 : Value).ownBlock ∧ some k_ ≠ (v107 : Value).ownBlock ∧ some k_ ≠ (v110 : Value).ownBlock ∧ some k_ ≠ (v116 : Value).ownBlock ∧ some k_ ≠ (v119 : Value).ownBlock) v113 t112) := ⟨h3_⟩
                  have n4_ : Aside0 (Kd.R (Kd.int .u8) 5 w41 w.heap.size (fun k_ => some k_ ≠ (v104 : Value).ownBlock ∧ some k_ ≠ (v107 : Value).ownBlock ∧ some k_ ≠ (v110 : Value).ownBlock ∧ some k_ ≠ (v113 : Value).ownBlock ∧ some k_ ≠ (v119 : Value).ownBlock) v116 t115) := ⟨h4_⟩
                  have n5_ : Aside0 (Kd.R (Kd.int .u8) 5 w41 w.heap.size (fun k_ => some k_ ≠ (v104 : Value).ownBlock ∧ some k_ ≠ (v107 : Value).ownBlock ∧ some k_ ≠ (v110 : Value).ownBlock ∧ some k_ ≠ (v113 : Value).ownBlock ∧ some k_ ≠ (v116 : Value).ownBlock) v119 t118) := ⟨h5_⟩
                  have n6_ : Aside0 (Below w.heap.size w w41) := ⟨h6_⟩
                  clear HB
                  clear h0_ h1_ h2_ h3_ h4_ h5_ h6_
                  have HO105 := n0_
                  have HO108 := n1_
                  have HO111 := n2_
                  have HO114 := n3_
                  have HO117 := n4_
                  have HO120 := n5_
                  have HB := n6_
                  clear n0_ n1_ n2_ n3_ n4_ n5_ n6_
                  have hHeld := trivial
                  refine norm_ (a' := ?_) ?_ ?_
                  rotate_left
                  ·simp only [putAll, Act.put, pq6, pq7, pq8]
                   rfl
                  refine one_ (i := 30) (N := some 53) packPuts_d54 rfl rfl (one_of HT_.out (by kernel_rfl)) (by decide) (fun K hK => ?_)
                  have hcv42 := own_string (P := Try.prog) Try.underlying22 Try.underlying5 Try.underlying9 (Kd.own_of_R HO120.out); have hcv42d := fun m_ => own_string (P := Try.prog) Try.underlying22 Try.underlying5 Try.underlying9 (pw_own_drewN (Kd.own_of_R HO120.out) m_)
                  refine value_ (w1 := ?_) (v := ?_) (by rfl) rfl ?_ ?_
                  rotate_left 2
                  ·go_simp
                   constructor
                   ·rfl
                   ·rfl
                  clear hcv42 hcv42d
                  refine hK.out _ _ trivial (fun hHeld => ?_)
                  clear hK K
                  refine norm_ (a' := ?_) ?_ ?_
                  rotate_left
                  ·show Act.put _ (some 53) _ = _
                   simp only [Act.put, pq6, pq7, pq8, i64_w, i32_w]
                   rfl
                  refine pure_ (i := 31) (N := some 54) (v := ?_) (a' := ?_) packPuts_d47 rfl rfl (any_of HT_.out (by kernel_rfl)) (fun _ _ _ h => h) (Or.inl ⟨by rfl, ?_⟩) ?_ ?_
                  rotate_left
                  ·intro w'
                   go_simp
                   with_reducible rfl
                  rotate_left
                  ·simp only [Act.put, pq6, pq7, pq8, i64_w, i32_w]
                   rfl
                  refine pure_ (i := 32) (N := some 55) (v := ?_) (a' := ?_) packPuts_d48 rfl rfl (any_of HT_.out (by kernel_rfl)) (fun _ _ _ h => h) (Or.inl ⟨by rfl, ?_⟩) ?_ ?_
                  rotate_left
                  ·intro w'
                   go_simp
                   with_reducible rfl
                  rotate_left
                  ·simp only [Act.put, pq6, pq7, pq8, i64_w, i32_w]
                   rfl
                  refine pure_ (i := 33) (N := some 56) (v := ?_) (a' := ?_) packPuts_d49 rfl rfl (any_of HT_.out (by kernel_rfl)) (fun _ _ _ h => h) (Or.inl ⟨by rfl, ?_⟩) ?_ ?_
                  rotate_left
                  ·intro w'
                   go_simp
                   with_reducible rfl
                  rotate_left
                  ·simp only [Act.put, pq6, pq7, pq8, i64_w, i32_w]
                   rfl
                  refine pure_ (i := 34) (N := some 57) (v := ?_) (a' := ?_) packPuts_d50 rfl rfl (any_of HT_.out (by kernel_rfl)) (fun _ _ _ h => h) (Or.inl ⟨by rfl, ?_⟩) ?_ ?_
                  rotate_left
                  ·intro w'
                   go_simp
                   with_reducible rfl
                  rotate_left
                  ·simp only [Act.put, pq6, pq7, pq8, i64_w, i32_w]
                   rfl
                  refine pure_ (i := 35) (N := some 58) (v := ?_) (a' := ?_) packPuts_d51 rfl rfl (any_of HT_.out (by kernel_rfl)) (fun _ _ _ h => h) (Or.inl ⟨by rfl, ?_⟩) ?_ ?_
                  rotate_left
                  ·intro w'
                   go_simp
                   with_reducible rfl
                  rotate_left
                  ·simp only [Act.put, pq6, pq7, pq8, i64_w, i32_w]
                   rfl
                  refine pure_ (i := 36) (N := some 59) (v := ?_) (a' := ?_) packPuts_d52 rfl rfl (any_of HT_.out (by kernel_rfl)) (fun _ _ _ h => h) (Or.inl ⟨by rfl, ?_⟩) ?_ ?_
                  rotate_left
                  ·intro w'
                   go_simp
                   with_reducible rfl
                  rotate_left
                  ·simp only [Act.put, pq6, pq7, pq8, i64_w, i32_w]
                   rfl
                  refine pure_ (i := 39) (N := some 62) (v := ?_) (a' := ?_) packPuts_d53 rfl rfl (any_of HT_.out (by kernel_rfl)) (fun _ _ _ h => h) (Or.inl ⟨by rfl, ?_⟩) ?_ ?_
                  rotate_left
                  ·intro w'
                   go_simp
                   with_reducible rfl
                  rotate_left
                  ·simp only [Act.put, pq6, pq7, pq8, i64_w, i32_w]
                   rfl
                  refine pure_ (i := 40) (N := some 63) (v := ?_) (a' := ?_) packPuts_d12 rfl rfl (any_of HT_.out (by kernel_rfl)) (fun _ _ _ h => h) (Or.inl ⟨by rfl, ?_⟩) ?_ ?_
                  rotate_left
                  ·intro w'
                   go_simp
                   with_reducible rfl
                  rotate_left
                  ·simp only [Act.put, pq6, pq7, pq8, i64_w, i32_w]
                   rfl
                  exact norm_ (by first | (simp only [putAll, Act.put, pq6, pq7, pq8]; done) | (simp only [putAll, Act.put, pq6, pq7, pq8]; rfl)) (hJ3_6_7_13_14_17_18_25_26_29_30 (v107, v110, v113, v116, v119) _ ⟨(by (with_reducible repeat (first | apply pq0 | apply pq1 | apply pq2)); exact HO105.out), (by (with_reducible repeat (first | apply pq0 | apply pq1 | apply pq2)); exact HO108.out), (by (with_reducible repeat (first | apply pq0 | apply pq1 | apply pq2)); exact HO111.out), (by (with_reducible repeat (first | apply pq0 | apply pq1 | apply pq2)); exact HO114.out), (by (with_reducible repeat (first | apply pq0 | apply pq1 | apply pq2)); exact HO117.out), (by (with_reducible repeat (first | apply pq0 | apply pq1 | apply pq2)); exact HO120.out), (by repeat (first | exact HB.out | apply pq3 | apply pq4 | apply pq5))⟩)
                ·skip
                 rintro ⟨v107, v110, v113, v116, v119⟩ w42 ⟨h0_, h1_, h2_, h3_, h4_, h5_, h6_⟩
                 have n0_ : Aside0 (Kd.R (Kd.int .u8) 5 w42 w.heap.size (fun k_ => some k_ ≠ (v107 : Value).ownBlock ∧ some k_ ≠ (v110 : Value).ownBlock ∧ some k_ ≠ (v113 : Value).ownBlock ∧ some k_ ≠ (v116 : Value).ownBlock ∧ some k_ ≠ (v119 : Value).ownBlock) v104 t103) := ⟨h0_⟩
                 have n1_ : Aside0 (Kd.R (Kd.int .u8) 5 w42 w.heap.size (fun k_ => some k_ ≠ (v104 : Value).ownBlock ∧ some k_ ≠ (v110 : Value).ownBlock ∧ some k_ ≠ (v113 : Value).ownBlock ∧ some k_ ≠ (v116 : Value).ownBlock ∧ some k_ ≠ (v119 : Value).ownBlock) v107 t106) := ⟨h1_⟩
                 have n2_ : Aside0 (Kd.R (Kd.int .u8) 5 w42 w.heap.size (fun k_ => some k_ ≠ (v104 : Value).ownBlock ∧ some k_ ≠ (v107 : Value).ownBlock ∧ some k_ ≠ (v113 : Value).ownBlock ∧ some k_ ≠ (v116 : Value).ownBlock ∧ some k_ ≠ (v119 : Value).ownBlock) v110 t109) := ⟨h2_⟩
                 have n3_ : Aside0 (Kd.R (Kd.int .u8) 5 w42 w.heap.size (fun k_ => some k_ ≠ (v104 : Value).ownBlock ∧ some k_ ≠ (v107 : Value).ownBlock ∧ some k_ ≠ (v110 : Value).ownBlock ∧ some k_ ≠ (v116 : Value).ownBlock ∧ some k_ ≠ (v119 : Value).ownBlock) v113 t112) := ⟨h3_⟩
                 have n4_ : Aside0 (Kd.R (Kd.int .u8) 5 w42 w.heap.size (fun k_ => some k_ ≠ (v104 : Value).ownBlock ∧ some k_ ≠ (v107 : Value).ownBlock ∧ some k_ ≠ (v110 : Value).ownBlock ∧ some k_ ≠ (v113 : Value).ownBlock ∧ some k_ ≠ (v119 : Value).ownBlock) v116 t115) := ⟨h4_⟩
                 have n5_ : Aside0 (Kd.R (Kd.int .u8) 5 w42 w.heap.size (fun k_ => some k_ ≠ (v104 : Value).ownBlock ∧ some k_ ≠ (v107 : Value).ownBlock ∧ some k_ ≠ (v110 : Value).ownBlock ∧ some k_ ≠ (v113 : Value).ownBlock ∧ some k_ ≠ (v116 : Value).ownBlock) v119 t118) := ⟨h5_⟩
                 have n6_ : Aside0 (Below w.heap.size w w42) := ⟨h6_⟩
                 clear HB
                 clear h0_ h1_ h2_ h3_ h4_ h5_ h6_
                 have HO105 := n0_
                 have HO108 := n1_
                 have HO111 := n2_
                 have HO114 := n3_
                 have HO117 := n4_
                 have HO120 := n5_
                 have HB := n6_
                 clear n0_ n1_ n2_ n3_ n4_ n5_ n6_
                 have hHeld := trivial
                 refine norm_ (a' := ?_) ?_ ?_
                 rotate_left
                 ·simp only [putAll, Act.put, pq6, pq7, pq8]
                  rfl
                 refine one_ (i := 37) (N := some 60) packPuts_d11 rfl rfl (one_of HT_.out (by kernel_rfl)) (by decide) (fun K hK => ?_)
                 refine goes_ Try.func32 (by kernel_rfl) rfl #[.slice A0 l0.length c0, .int .i64 a4] (by rfl) rfl rfl (by (try simp only [List.map_toArray, List.map_cons, List.map_nil]); first | done | rfl | (simp only [List.length_drop, List.length_take]; rfl)) ?_
                 with_reducible refine (pack_Pad.calls _ _ l0 a4 t121 _ ?side1 ?side2 A24.out).mono ?_
                 (case side1 => repeat (first | exact (Kd.C_below HR0.out HB.out) | (with_reducible refine Kd.C_alloc ?_ _) | (with_reducible refine Kd.C_drewN ?_ _) | (with_reducible refine Kd.C_drew ?_)))
                 (case side2 => exact HC0.out)
                 rintro e w43 ⟨v122, rfl, ho0, hb⟩
                 refine ⟨_, rfl, ?_⟩
                 have n0_ := am (Kd.R_elder' (by (with_reducible repeat (first | apply pq0 | apply pq1 | apply pq2)); exact HO105.out) (Kd.R_base ho0) hb)
                 have n1_ := am (Kd.R_elder' (by (with_reducible repeat (first | apply pq0 | apply pq1 | apply pq2)); exact HO108.out) (Kd.R_base ho0) hb)
                 have n2_ := am (Kd.R_elder' (by (with_reducible repeat (first | apply pq0 | apply pq1 | apply pq2)); exact HO111.out) (Kd.R_base ho0) hb)
                 have n3_ := am (Kd.R_elder' (by (with_reducible repeat (first | apply pq0 | apply pq1 | apply pq2)); exact HO114.out) (Kd.R_base ho0) hb)
                 have n4_ := am (Kd.R_elder' (by (with_reducible repeat (first | apply pq0 | apply pq1 | apply pq2)); exact HO117.out) (Kd.R_base ho0) hb)
                 have n5_ := am (Kd.R_elder' (by (with_reducible repeat (first | apply pq0 | apply pq1 | apply pq2)); exact HO120.out) (Kd.R_base ho0) hb)
                 have n6_ := am (Kd.R_lower (Kd.R_new' (Kd.R_new' (Kd.R_new' (Kd.R_new' (Kd.R_new' (Kd.R_new' ho0 (Kd.R_lt (by (with_reducible repeat (first | apply pq0 | apply pq1 | apply pq2)); exact HO105.out))) (Kd.R_lt (by (with_reducible repeat (first | apply pq0 | apply pq1 | apply pq2)); exact HO108.out))) (Kd.R_lt (by (with_reducible repeat (first | apply pq0 | apply pq1 | apply pq2)); exact HO111.out))) (Kd.R_lt (by (with_reducible repeat (first | apply pq0 | apply pq1 | apply pq2)); exact HO114.out))) (Kd.R_lt (by (with_reducible repeat (first | apply pq0 | apply pq1 | apply pq2)); exact HO117.out))) (Kd.R_lt (by (with_reducible repeat (first | apply pq0 | apply pq1 | apply pq2)); exact HO120.out))) (below_size (by repeat (first | exact HB.out | apply pq3 | apply pq4 | apply pq5))))
                 have n7_ := am (below_step (by repeat (first | exact HB.out | apply pq3 | apply pq4 | apply pq5)) hb)
                 clear HO105
                 clear HO108
                 clear HO111
                 clear HO114
                 clear HO117
                 clear HO120
                 clear HB
                 have HO105 := n0_
                 have HO108 := n1_
                 have HO111 := n2_
                 have HO114 := n3_
                 have HO117 := n4_
                 have HO120 := n5_
                 have HO123 := n6_
                 have HB := n7_
                 clear n0_ n1_ n2_ n3_ n4_ n5_ n6_ n7_
                 (try clear hb)
                 (try clear hb2)
                 (try clear hk)
                 (try clear hi)
                 (try clear ho0)
                 refine hK.out _ _ trivial (fun hHeld => ?_)
                 clear hK K
                 refine norm_ (a' := ?_) ?_ ?_
                 rotate_left
                 ·show Act.put _ (some 60) _ = _
                  simp only [Act.put, pq6, pq7, pq8, i64_w, i32_w]
                  rfl
                 exact norm_ (by first | (simp only [putAll, Act.put, pq6, pq7, pq8]; done) | (simp only [putAll, Act.put, pq6, pq7, pq8]; rfl)) (hJ3_6_7_13_14_17_18_25_26_29_30_37 (v107, v110, v113, v116, v119, v122) _ ⟨(by (with_reducible repeat (first | apply pq0 | apply pq1 | apply pq2)); exact Kd.R_mono HO105.out (fun _ hk => ⟨hk.1.1, ⟨hk.1.2.1, ⟨hk.1.2.2.1, ⟨hk.1.2.2.2.1, ⟨hk.1.2.2.2.2, hk.2⟩⟩⟩⟩⟩)), (by (with_reducible repeat (first | apply pq0 | apply pq1 | apply pq2)); exact Kd.R_mono HO108.out (fun _ hk => ⟨hk.1.1, ⟨hk.1.2.1, ⟨hk.1.2.2.1, ⟨hk.1.2.2.2.1, ⟨hk.1.2.2.2.2, hk.2⟩⟩⟩⟩⟩)), (by (with_reducible repeat (first | apply pq0 | apply pq1 | apply pq2)); exact Kd.R_mono HO111.out (fun _ hk => ⟨hk.1.1, ⟨hk.1.2.1, ⟨hk.1.2.2.1, ⟨hk.1.2.2.2.1, ⟨hk.1.2.2.2.2, hk.2⟩⟩⟩⟩⟩)), (by (with_reducible repeat (first | apply pq0 | apply pq1 | apply pq2)); exact Kd.R_mono HO114.out (fun _ hk => ⟨hk.1.1, ⟨hk.1.2.1, ⟨hk.1.2.2.1, ⟨hk.1.2.2.2.1, ⟨hk.1.2.2.2.2, hk.2⟩⟩⟩⟩⟩)), (by (with_reducible repeat (first | apply pq0 | apply pq1 | apply pq2)); exact Kd.R_mono HO117.out (fun _ hk => ⟨hk.1.1, ⟨hk.1.2.1, ⟨hk.1.2.2.1, ⟨hk.1.2.2.2.1, ⟨hk.1.2.2.2.2, hk.2⟩⟩⟩⟩⟩)), (by (with_reducible repeat (first | apply pq0 | apply pq1 | apply pq2)); exact Kd.R_mono HO120.out (fun _ hk => ⟨hk.1.1, ⟨hk.1.2.1, ⟨hk.1.2.2.1, ⟨hk.1.2.2.2.1, ⟨hk.1.2.2.2.2, hk.2⟩⟩⟩⟩⟩)), (by (with_reducible repeat (first | apply pq0 | apply pq1 | apply pq2)); exact Kd.R_mono HO123.out (fun _ hk => ⟨hk.1.1.1.1.1.2, ⟨hk.1.1.1.1.2, ⟨hk.1.1.1.2, ⟨hk.1.1.2, ⟨hk.1.2, hk.2⟩⟩⟩⟩⟩)), (by repeat (first | exact HB.out | apply pq3 | apply pq4 | apply pq5))⟩)
               ·skip
                rintro ⟨v107, v110, v113, v116, v119, v122⟩ w43 ⟨h0_, h1_, h2_, h3_, h4_, h5_, h6_, h7_⟩
                have n0_ : Aside0 (Kd.R (Kd.int .u8) 5 w43 w.heap.size (fun k_ => some k_ ≠ (v107 : Value).ownBlock ∧ some k_ ≠ (v110 : Value).ownBlock ∧ some k_ ≠ (v113 : Value).ownBlock ∧ some k_ ≠ (v116 : Value).ownBlock ∧ some k_ ≠ (v119 : Value).ownBlock ∧ some k_ ≠ (v122 : Value).ownBlock) v104 t103) := ⟨h0_⟩
                have n1_ : Aside0 (Kd.R (Kd.int .u8) 5 w43 w.heap.size (fun k_ => some k_ ≠ (v104 : Value).ownBlock ∧ some k_ ≠ (v110 : Value).ownBlock ∧ some k_ ≠ (v113 : Value).ownBlock ∧ some k_ ≠ (v116 : Value).ownBlock ∧ some k_ ≠ (v119 : Value).ownBlock ∧ some k_ ≠ (v122 : Value).ownBlock) v107 t106) := ⟨h1_⟩
                have n2_ : Aside0 (Kd.R (Kd.int .u8) 5 w43 w.heap.size (fun k_ => some k_ ≠ (v104 : Value).ownBlock ∧ some k_ ≠ (v107 : Value).ownBlock ∧ some k_ ≠ (v113 : Value).ownBlock ∧ some k_ ≠ (v116 : Value).ownBlock ∧ some k_ ≠ (v119 : Value).ownBlock ∧ some k_ ≠ (v122 : Value).ownBlock) v110 t109) := ⟨h2_⟩
                have n3_ : Aside0 (Kd.R (Kd.int .u8) 5 w43 w.heap.size (fun k_ => some k_ ≠ (v104 : Value).ownBlock ∧ some k_ ≠ (v107 : Value).ownBlock ∧ some k_ ≠ (v110 : Value).ownBlock ∧ some k_ ≠ (v116 : Value).ownBlock ∧ some k_ ≠ (v119 : Value).ownBlock ∧ some k_ ≠ (v122 : Value).ownBlock) v113 t112) := ⟨h3_⟩
                have n4_ : Aside0 (Kd.R (Kd.int .u8) 5 w43 w.heap.size (fun k_ => some k_ ≠ (v104 : Value).ownBlock ∧ some k_ ≠ (v107 : Value).ownBlock ∧ some k_ ≠ (v110 : Value).ownBlock ∧ some k_ ≠ (v113 : Value).ownBlock ∧ some k_ ≠ (v119 : Value).ownBlock ∧ some k_ ≠ (v122 : Value).ownBlock) v116 t115) := ⟨h4_⟩
                have n5_ : Aside0 (Kd.R (Kd.int .u8) 5 w43 w.heap.size (fun k_ => some k_ ≠ (v104 : Value).ownBlock ∧ some k_ ≠ (v107 : Value).ownBlock ∧ some k_ ≠ (v110 : Value).ownBlock ∧ some k_ ≠ (v113 : Value).ownBlock ∧ some k_ ≠ (v116 : Value).ownBlock ∧ some k_ ≠ (v122 : Value).ownBlock) v119 t118) := ⟨h5_⟩
                have n6_ : Aside0 (Kd.R (Kd.int .u8) 5 w43 w.heap.size (fun k_ => some k_ ≠ (v104 : Value).ownBlock ∧ some k_ ≠ (v107 : Value).ownBlock ∧ some k_ ≠ (v110 : Value).ownBlock ∧ some k_ ≠ (v113 : Value).ownBlock ∧ some k_ ≠ (v116 : Value).ownBlock ∧ some k_ ≠ (v119 : Value).ownBlock) v122 t121) := ⟨h6_⟩
                have n7_ : Aside0 (Below w.heap.size w w43) := ⟨h7_⟩
                clear HB
                clear h0_ h1_ h2_ h3_ h4_ h5_ h6_ h7_
                have HO105 := n0_
                have HO108 := n1_
                have HO111 := n2_
                have HO114 := n3_
                have HO117 := n4_
                have HO120 := n5_
                have HO123 := n6_
                have HB := n7_
                clear n0_ n1_ n2_ n3_ n4_ n5_ n6_ n7_
                have hHeld := trivial
                refine norm_ (a' := ?_) ?_ ?_
                rotate_left
                ·simp only [putAll, Act.put, pq6, pq7, pq8]
                 rfl
                refine two_ (i := 38) (j := 41) (Ni := some 61) (Nj := some 64) packPuts_d9 packPuts_d10 rfl rfl rfl rfl (two_of HT_.out (by kernel_rfl)) (by decide) (by decide) (fun K hK => ?_) (fun K hK => ?_)
                ·skip
                 have hcv44 := own_string (P := Try.prog) Try.underlying22 Try.underlying5 Try.underlying9 (Kd.own_of_R HO123.out); have hcv44d := fun m_ => own_string (P := Try.prog) Try.underlying22 Try.underlying5 Try.underlying9 (pw_own_drewN (Kd.own_of_R HO123.out) m_)
                 refine value_ (w1 := ?_) (v := ?_) (by rfl) rfl ?_ ?_
                 rotate_left 2
                 ·go_simp
                  constructor
                  ·rfl
                  ·rfl
                 clear hcv44 hcv44d
                 refine hK.out _ _ trivial (fun hHeld => ?_)
                 clear hK K
                 refine norm_ (a' := ?_) ?_ ?_
                 rotate_left
                 ·show Act.put _ (some 61) _ = _
                  simp only [Act.put, pq6, pq7, pq8, i64_w, i32_w]
                  rfl
                 exact norm_ (by first | (simp only [putAll, Act.put, pq6, pq7, pq8]; done) | (simp only [putAll, Act.put, pq6, pq7, pq8]; rfl)) (hJ3_6_7_13_14_17_18_25_26_29_30_37_38 (v107, v110, v113, v116, v119, v122) _ ⟨(by (with_reducible repeat (first | apply pq0 | apply pq1 | apply pq2)); exact HO105.out), (by (with_reducible repeat (first | apply pq0 | apply pq1 | apply pq2)); exact HO108.out), (by (with_reducible repeat (first | apply pq0 | apply pq1 | apply pq2)); exact HO111.out), (by (with_reducible repeat (first | apply pq0 | apply pq1 | apply pq2)); exact HO114.out), (by (with_reducible repeat (first | apply pq0 | apply pq1 | apply pq2)); exact HO117.out), (by (with_reducible repeat (first | apply pq0 | apply pq1 | apply pq2)); exact HO120.out), (by (with_reducible repeat (first | apply pq0 | apply pq1 | apply pq2)); exact HO123.out), (by repeat (first | exact HB.out | apply pq3 | apply pq4 | apply pq5))⟩)
                ·skip
                 refine goes_ Try.func33 (by kernel_rfl) rfl #[.slice A0 l0.length c0, .int .i64 a4] (by rfl) rfl rfl (by (try simp only [List.map_toArray, List.map_cons, List.map_nil]); first | done | rfl | (simp only [List.length_drop, List.length_take]; rfl)) ?_
                 with_reducible refine (revetmentref01_Pad.calls k _ _ l0 a4 t124 _ ?side1 ?side2 A25.out).mono ?_
                 (case side1 => repeat (first | exact (Kd.C_below HR0.out HB.out) | (with_reducible refine Kd.C_alloc ?_ _) | (with_reducible refine Kd.C_drewN ?_ _) | (with_reducible refine Kd.C_drew ?_)))
                 (case side2 => exact HC0.out)
                 rintro e w44 ⟨v125, rfl, ho0, hb⟩
                 refine ⟨_, rfl, ?_⟩
                 have n0_ := am (Kd.R_elder' (by (with_reducible repeat (first | apply pq0 | apply pq1 | apply pq2)); exact HO105.out) (Kd.R_base ho0) hb)
                 have n1_ := am (Kd.R_elder' (by (with_reducible repeat (first | apply pq0 | apply pq1 | apply pq2)); exact HO108.out) (Kd.R_base ho0) hb)
                 have n2_ := am (Kd.R_elder' (by (with_reducible repeat (first | apply pq0 | apply pq1 | apply pq2)); exact HO111.out) (Kd.R_base ho0) hb)
                 have n3_ := am (Kd.R_elder' (by (with_reducible repeat (first | apply pq0 | apply pq1 | apply pq2)); exact HO114.out) (Kd.R_base ho0) hb)
                 have n4_ := am (Kd.R_elder' (by (with_reducible repeat (first | apply pq0 | apply pq1 | apply pq2)); exact HO117.out) (Kd.R_base ho0) hb)
                 have n5_ := am (Kd.R_elder' (by (with_reducible repeat (first | apply pq0 | apply pq1 | apply pq2)); exact HO120.out) (Kd.R_base ho0) hb)
                 have n6_ := am (Kd.R_elder' (by (with_reducible repeat (first | apply pq0 | apply pq1 | apply pq2)); exact HO123.out) (Kd.R_base ho0) hb)
                 have n7_ := am (Kd.R_lower (Kd.R_new' (Kd.R_new' (Kd.R_new' (Kd.R_new' (Kd.R_new' (Kd.R_new' (Kd.R_new' ho0 (Kd.R_lt (by (with_reducible repeat (first | apply pq0 | apply pq1 | apply pq2)); exact HO105.out))) (Kd.R_lt (by (with_reducible repeat (first | apply pq0 | apply pq1 | apply pq2)); exact HO108.out))) (Kd.R_lt (by (with_reducible repeat (first | apply pq0 | apply pq1 | apply pq2)); exact HO111.out))) (Kd.R_lt (by (with_reducible repeat (first | apply pq0 | apply pq1 | apply pq2)); exact HO114.out))) (Kd.R_lt (by (with_reducible repeat (first | apply pq0 | apply pq1 | apply pq2)); exact HO117.out))) (Kd.R_lt (by (with_reducible repeat (first | apply pq0 | apply pq1 | apply pq2)); exact HO120.out))) (Kd.R_lt (by (with_reducible repeat (first | apply pq0 | apply pq1 | apply pq2)); exact HO123.out))) (below_size (by repeat (first | exact HB.out | apply pq3 | apply pq4 | apply pq5))))
                 have n8_ := am (below_step (by repeat (first | exact HB.out | apply pq3 | apply pq4 | apply pq5)) hb)
                 clear HO105
                 clear HO108
                 clear HO111
                 clear HO114
                 clear HO117
                 clear HO120
                 clear HO123
                 clear HB
                 have HO105 := n0_
                 have HO108 := n1_
                 have HO111 := n2_
                 have HO114 := n3_
                 have HO117 := n4_
                 have HO120 := n5_
                 have HO123 := n6_
                 have HO126 := n7_
                 have HB := n8_
                 clear n0_ n1_ n2_ n3_ n4_ n5_ n6_ n7_ n8_
                 (try clear hb)
                 (try clear hb2)
                 (try clear hk)
                 (try clear hi)
                 (try clear ho0)
                 refine hK.out _ _ trivial (fun hHeld => ?_)
                 clear hK K
                 refine norm_ (a' := ?_) ?_ ?_
                 rotate_left
                 ·show Act.put _ (some 64) _ = _
                  simp only [Act.put, pq6, pq7, pq8, i64_w, i32_w]
                  rfl
                 exact norm_ (by first | (simp only [putAll, Act.put, pq6, pq7, pq8]; done) | (simp only [putAll, Act.put, pq6, pq7, pq8]; rfl)) (hJ3_6_7_13_14_17_18_25_26_29_30_37_41 (v107, v110, v113, v116, v119, v122, v125) _ ⟨(by (with_reducible repeat (first | apply pq0 | apply pq1 | apply pq2)); exact Kd.R_mono HO105.out (fun _ hk => ⟨hk.1.1, ⟨hk.1.2.1, ⟨hk.1.2.2.1, ⟨hk.1.2.2.2.1, ⟨hk.1.2.2.2.2.1, ⟨hk.1.2.2.2.2.2, hk.2⟩⟩⟩⟩⟩⟩)), (by (with_reducible repeat (first | apply pq0 | apply pq1 | apply pq2)); exact Kd.R_mono HO108.out (fun _ hk => ⟨hk.1.1, ⟨hk.1.2.1, ⟨hk.1.2.2.1, ⟨hk.1.2.2.2.1, ⟨hk.1.2.2.2.2.1, ⟨hk.1.2.2.2.2.2, hk.2⟩⟩⟩⟩⟩⟩)), (by (with_reducible repeat (first | apply pq0 | apply pq1 | apply pq2)); exact Kd.R_mono HO111.out (fun _ hk => ⟨hk.1.1, ⟨hk.1.2.1, ⟨hk.1.2.2.1, ⟨hk.1.2.2.2.1, ⟨hk.1.2.2.2.2.1, ⟨hk.1.2.2.2.2.2, hk.2⟩⟩⟩⟩⟩⟩)), (by (with_reducible repeat (first | apply pq0 | apply pq1 | apply pq2)); exact Kd.R_mono HO114.out (fun _ hk => ⟨hk.1.1, ⟨hk.1.2.1, ⟨hk.1.2.2.1, ⟨hk.1.2.2.2.1, ⟨hk.1.2.2.2.2.1, ⟨hk.1.2.2.2.2.2, hk.2⟩⟩⟩⟩⟩⟩)), (by (with_reducible repeat (first | apply pq0 | apply pq1 | apply pq2)); exact Kd.R_mono HO117.out (fun _ hk => ⟨hk.1.1, ⟨hk.1.2.1, ⟨hk.1.2.2.1, ⟨hk.1.2.2.2.1, ⟨hk.1.2.2.2.2.1, ⟨hk.1.2.2.2.2.2, hk.2⟩⟩⟩⟩⟩⟩)), (by (with_reducible repeat (first | apply pq0 | apply pq1 | apply pq2)); exact Kd.R_mono HO120.out (fun _ hk => ⟨hk.1.1, ⟨hk.1.2.1, ⟨hk.1.2.2.1, ⟨hk.1.2.2.2.1, ⟨hk.1.2.2.2.2.1, ⟨hk.1.2.2.2.2.2, hk.2⟩⟩⟩⟩⟩⟩)), (by (with_reducible repeat (first | apply pq0 | apply pq1 | apply pq2)); exact Kd.R_mono HO123.out (fun _ hk => ⟨hk.1.1, ⟨hk.1.2.1, ⟨hk.1.2.2.1, ⟨hk.1.2.2.2.1, ⟨hk.1.2.2.2.2.1, ⟨hk.1.2.2.2.2.2, hk.2⟩⟩⟩⟩⟩⟩)), (by (with_reducible repeat (first | apply pq0 | apply pq1 | apply pq2)); exact Kd.R_mono HO126.out (fun _ hk => ⟨hk.1.1.1.1.1.1.2, ⟨hk.1.1.1.1.1.2, ⟨hk.1.1.1.1.2, ⟨hk.1.1.1.2, ⟨hk.1.1.2, ⟨hk.1.2, hk.2⟩⟩⟩⟩⟩⟩)), (by repeat (first | exact HB.out | apply pq3 | apply pq4 | apply pq5))⟩)
              ·skip
               rintro ⟨v107, v110, v113, v116, v119, v122, v125⟩ w44 ⟨h0_, h1_, h2_, h3_, h4_, h5_, h6_, h7_, h8_⟩
               have n0_ : Aside0 (Kd.R (Kd.int .u8) 5 w44 w.heap.size (fun k_ => some k_ ≠ (v107 : Value).ownBlock ∧ some k_ ≠ (v110 : Value).ownBlock ∧ some k_ ≠ (v113 : Value).ownBlock ∧ some k_ ≠ (v116 : Value).ownBlock ∧ some k_ ≠ (v119 : Value).ownBlock ∧ some k_ ≠ (v122 : Value).ownBlock ∧ some k_ ≠ (v125 : Value).ownBlock) v104 t103) := ⟨h0_⟩
               have n1_ : Aside0 (Kd.R (Kd.int .u8) 5 w44 w.heap.size (fun k_ => some k_ ≠ (v104 : Value).ownBlock ∧ some k_ ≠ (v110 : Value).ownBlock ∧ some k_ ≠ (v113 : Value).ownBlock ∧ some k_ ≠ (v116 : Value).ownBlock ∧ some k_ ≠ (v119 : Value).ownBlock ∧ some k_ ≠ (v122 : Value).ownBlock ∧ some k_ ≠ (v125 : Value).ownBlock) v107 t106) := ⟨h1_⟩
               have n2_ : Aside0 (Kd.R (Kd.int .u8) 5 w44 w.heap.size (fun k_ => some k_ ≠ (v104 : Value).ownBlock ∧ some k_ ≠ (v107 : Value).ownBlock ∧ some k_ ≠ (v113 : Value).ownBlock ∧ some k_ ≠ (v116 : Value).ownBlock ∧ some k_ ≠ (v119 : Value).ownBlock ∧ some k_ ≠ (v122 : Value).ownBlock ∧ some k_ ≠ (v125 : Value).ownBlock) v110 t109) := ⟨h2_⟩
               have n3_ : Aside0 (Kd.R (Kd.int .u8) 5 w44 w.heap.size (fun k_ => some k_ ≠ (v104 : Value).ownBlock ∧ some k_ ≠ (v107 : Value).ownBlock ∧ some k_ ≠ (v110 : Value).ownBlock ∧ some k_ ≠ (v116 : Value).ownBlock ∧ some k_ ≠ (v119 : Value).ownBlock ∧ some k_ ≠ (v122 : Value).ownBlock ∧ some k_ ≠ (v125 : Value).ownBlock) v113 t112) := ⟨h3_⟩
               have n4_ : Aside0 (Kd.R (Kd.int .u8) 5 w44 w.heap.size (fun k_ => some k_ ≠ (v104 : Value).ownBlock ∧ some k_ ≠ (v107 : Value).ownBlock ∧ some k_ ≠ (v110 : Value).ownBlock ∧ some k_ ≠ (v113 : Value).ownBlock ∧ some k_ ≠ (v119 : Value).ownBlock ∧ some k_ ≠ (v122 : Value).ownBlock ∧ some k_ ≠ (v125 : Value).ownBlock) v116 t115) := ⟨h4_⟩
               have n5_ : Aside0 (Kd.R (Kd.int .u8) 5 w44 w.heap.size (fun k_ => some k_ ≠ (v104 : Value).ownBlock ∧ some k_ ≠ (v107 : Value).ownBlock ∧ some k_ ≠ (v110 : Value).ownBlock ∧ some k_ ≠ (v113 : Value).ownBlock ∧ some k_ ≠ (v116 : Value).ownBlock ∧ some k_ ≠ (v122 : Value).ownBlock ∧ some k_ ≠ (v125 : Value).ownBlock) v119 t118) := ⟨h5_⟩
               have n6_ : Aside0 (Kd.R (Kd.int .u8) 5 w44 w.heap.size (fun k_ => some k_ ≠ (v104 : Value).ownBlock ∧ some k_ ≠ (v107 : Value).ownBlock ∧ some k_ ≠ (v110 : Value).ownBlock ∧ some k_ ≠ (v113 : Value).ownBlock ∧ some k_ ≠ (v116 : Value).ownBlock ∧ some k_ ≠ (v119 : Value).ownBlock ∧ some k_ ≠ (v125 : Value).ownBlock) v122 t121) := ⟨h6_⟩
               have n7_ : Aside0 (Kd.R (Kd.int .u8) 5 w44 w.heap.size (fun k_ => some k_ ≠ (v104 : Value).ownBlock ∧ some k_ ≠ (v107 : Value).ownBlock ∧ some k_ ≠ (v110 : Value).ownBlock ∧ some k_ ≠ (v113 : Value).ownBlock ∧ some k_ ≠ (v116 : Value).ownBlock ∧ some k_ ≠ (v119 : Value).ownBlock ∧ some k_ ≠ (v122 : Value).ownBlock) v125 t124) := ⟨h7_⟩
               have n8_ : Aside0 (Below w.heap.size w w44) := ⟨h8_⟩
               clear HB
               clear h0_ h1_ h2_ h3_ h4_ h5_ h6_ h7_ h8_
               have HO105 := n0_
               have HO108 := n1_
               have HO111 := n2_
               have HO114 := n3_
               have HO117 := n4_
               have HO120 := n5_
               have HO123 := n6_
               have HO126 := n7_
               have HB := n8_
               clear n0_ n1_ n2_ n3_ n4_ n5_ n6_ n7_ n8_
               have hHeld := trivial
               refine norm_ (a' := ?_) ?_ ?_
               rotate_left
               ·simp only [putAll, Act.put, pq6, pq7, pq8]
                rfl
               refine two_ (i := 38) (j := 42) (Ni := some 61) (Nj := some 65) packPuts_d7 packPuts_d8 rfl rfl rfl rfl (two_of HT_.out (by kernel_rfl)) (by decide) (by decide) (fun K hK => ?_) (fun K hK => ?_)
               ·skip
                have hcv45 := own_string (P := Try.prog) Try.underlying22 Try.underlying5 Try.underlying9 (Kd.own_of_R HO123.out); have hcv45d := fun m_ => own_string (P := Try.prog) Try.underlying22 Try.underlying5 Try.underlying9 (pw_own_drewN (Kd.own_of_R HO123.out) m_)
                refine value_ (w1 := ?_) (v := ?_) (by rfl) rfl ?_ ?_
                rotate_left 2
                ·go_simp
                 constructor
                 ·rfl
                 ·rfl
                clear hcv45 hcv45d
                refine hK.out _ _ trivial (fun hHeld => ?_)
                clear hK K
                refine norm_ (a' := ?_) ?_ ?_
                rotate_left
                ·show Act.put _ (some 61) _ = _
                 simp only [Act.put, pq6, pq7, pq8, i64_w, i32_w]
                 rfl
                exact norm_ (by first | (simp only [putAll, Act.put, pq6, pq7, pq8]; done) | (simp only [putAll, Act.put, pq6, pq7, pq8]; rfl)) (hJ3_6_7_13_14_17_18_25_26_29_30_37_38_41 (v107, v110, v113, v116, v119, v122, v125) _ ⟨(by (with_reducible repeat (first | apply pq0 | apply pq1 | apply pq2)); exact HO105.out), (by (with_reducible repeat (first | apply pq0 | apply pq1 | apply pq2)); exact HO108.out), (by (with_reducible repeat (first | apply pq0 | apply pq1 | apply pq2)); exact HO111.out), (by (with_reducible repeat (first | apply pq0 | apply pq1 | apply pq2)); exact HO114.out), (by (with_reducible repeat (first | apply pq0 | apply pq1 | apply pq2)); exact HO117.out), (by (with_reducible repeat (first | apply pq0 | apply pq1 | apply pq2)); exact HO120.out), (by (with_reducible repeat (first | apply pq0 | apply pq1 | apply pq2)); exact HO123.out), (by (with_reducible repeat (first | apply pq0 | apply pq1 | apply pq2)); exact HO126.out), (by repeat (first | exact HB.out | apply pq3 | apply pq4 | apply pq5))⟩)
               ·skip
                have hcv45 := own_string (P := Try.prog) Try.underlying22 Try.underlying5 Try.underlying9 (Kd.own_of_R HO126.out); have hcv45d := fun m_ => own_string (P := Try.prog) Try.underlying22 Try.underlying5 Try.underlying9 (pw_own_drewN (Kd.own_of_R HO126.out) m_)
                refine value_ (w1 := ?_) (v := ?_) (by rfl) rfl ?_ ?_
                rotate_left 2
                ·go_simp
                 constructor
                 ·rfl
                 ·rfl
                clear hcv45 hcv45d
                refine hK.out _ _ trivial (fun hHeld => ?_)
                clear hK K
                refine norm_ (a' := ?_) ?_ ?_
                rotate_left
                ·show Act.put _ (some 65) _ = _
                 simp only [Act.put, pq6, pq7, pq8, i64_w, i32_w]
                 rfl
                exact norm_ (by first | (simp only [putAll, Act.put, pq6, pq7, pq8]; done) | (simp only [putAll, Act.put, pq6, pq7, pq8]; rfl)) (hJ3_6_7_13_14_17_18_25_26_29_30_37_41_42 (v107, v110, v113, v116, v119, v122, v125) _ ⟨(by (with_reducible repeat (first | apply pq0 | apply pq1 | apply pq2)); exact HO105.out), (by (with_reducible repeat (first | apply pq0 | apply pq1 | apply pq2)); exact HO108.out), (by (with_reducible repeat (first | apply pq0 | apply pq1 | apply pq2)); exact HO111.out), (by (with_reducible repeat (first | apply pq0 | apply pq1 | apply pq2)); exact HO114.out), (by (with_reducible repeat (first | apply pq0 | apply pq1 | apply pq2)); exact HO117.out), (by (with_reducible repeat (first | apply pq0 | apply pq1 | apply pq2)); exact HO120.out), (by (with_reducible repeat (first | apply pq0 | apply pq1 | apply pq2)); exact HO123.out), (by (with_reducible repeat (first | apply pq0 | apply pq1 | apply pq2)); exact HO126.out), (by repeat (first | exact HB.out | apply pq3 | apply pq4 | apply pq5))⟩)
             ·skip
              rintro ⟨v107, v110, v113, v116, v119, v122⟩ w44 ⟨h0_, h1_, h2_, h3_, h4_, h5_, h6_, h7_⟩
              have n0_ : Aside0 (Kd.R (Kd.int .u8) 5 w44 w.heap.size (fun k_ => some k_ ≠ (v107 : Value).ownBlock ∧ some k_ ≠ (v110 : Value).ownBlock ∧ some k_ ≠ (v113 : Value).ownBlock ∧ some k_ ≠ (v116 : Value).ownBlock ∧ some k_ ≠ (v119 : Value).ownBlock ∧ some k_ ≠ (v122 : Value).ownBlock) v104 t103) := ⟨h0_⟩
              have n1_ : Aside0 (Kd.R (Kd.int .u8) 5 w44 w.heap.size (fun k_ => some k_ ≠ (v104 : Value).ownBlock ∧ some k_ ≠ (v110 : Value).ownBlock ∧ some k_ ≠ (v113 : Value).ownBlock ∧ some k_ ≠ (v116 : Value).ownBlock ∧ some k_ ≠ (v119 : Value).ownBlock ∧ some k_ ≠ (v122 : Value).ownBlock) v107 t106) := ⟨h1_⟩
              have n2_ : Aside0 (Kd.R (Kd.int .u8) 5 w44 w.heap.size (fun k_ => some k_ ≠ (v104 : Value).ownBlock ∧ some k_ ≠ (v107 : Value).ownBlock ∧ some k_ ≠ (v113 : Value).ownBlock ∧ some k_ ≠ (v116 : Value).ownBlock ∧ some k_ ≠ (v119 : Value).ownBlock ∧ some k_ ≠ (v122 : Value).ownBlock) v110 t109) := ⟨h2_⟩
              have n3_ : Aside0 (Kd.R (Kd.int .u8) 5 w44 w.heap.size (fun k_ => some k_ ≠ (v104 : Value).ownBlock ∧ some k_ ≠ (v107 : Value).ownBlock ∧ some k_ ≠ (v110 : Value).ownBlock ∧ some k_ ≠ (v116 : Value).ownBlock ∧ some k_ ≠ (v119 : Value).ownBlock ∧ some k_ ≠ (v122 : Value).ownBlock) v113 t112) := ⟨h3_⟩
              have n4_ : Aside0 (Kd.R (Kd.int .u8) 5 w44 w.heap.size (fun k_ => some k_ ≠ (v104 : Value).ownBlock ∧ some k_ ≠ (v107 : Value).ownBlock ∧ some k_ ≠ (v110 : Value).ownBlock ∧ some k_ ≠ (v113 : Value).ownBlock ∧ some k_ ≠ (v119 : Value).ownBlock ∧ some k_ ≠ (v122 : Value).ownBlock) v116 t115) := ⟨h4_⟩
              have n5_ : Aside0 (Kd.R (Kd.int .u8) 5 w44 w.heap.size (fun k_ => some k_ ≠ (v104 : Value).ownBlock ∧ some k_ ≠ (v107 : Value).ownBlock ∧ some k_ ≠ (v110 : Value).ownBlock ∧ some k_ ≠ (v113 : Value).ownBlock ∧ some k_ ≠ (v116 : Value).ownBlock ∧ some k_ ≠ (v122 : Value).ownBlock) v119 t118) := ⟨h5_⟩
              have n6_ : Aside0 (Kd.R (Kd.int .u8) 5 w44 w.heap.size (fun k_ => some k_ ≠ (v104 : Value).ownBlock ∧ some k_ ≠ (v107 : Value).ownBlock ∧ some k_ ≠ (v110 : Value).ownBlock ∧ some k_ ≠ (v113 : Value).ownBlock ∧ some k_ ≠ (v116 : Value).ownBlock ∧ some k_ ≠ (v119 : Value).ownBlock) v122 t121) := ⟨h6_⟩
              have n7_ : Aside0 (Below w.heap.size w w44) := ⟨h7_⟩
              clear HB
              clear h0_ h1_ h2_ h3_ h4_ h5_ h6_ h7_
              have HO105 := n0_
              have HO108 := n1_
              have HO111 := n2_
              have HO114 := n3_
              have HO117 := n4_
              have HO120 := n5_
              have HO123 := n6_
              have HB := n7_
              clear n0_ n1_ n2_ n3_ n4_ n5_ n6_ n7_
              have hHeld := trivial
              refine norm_ (a' := ?_) ?_ ?_
              rotate_left
              ·simp only [putAll, Act.put, pq6, pq7, pq8]
               rfl
              refine one_ (i := 41) (N := some 64) packPuts_d7 rfl rfl (one_of HT_.out (by kernel_rfl)) (by decide) (fun K hK => ?_)
              refine goes_ Try.func33 (by kernel_rfl) rfl #[.slice A0 l0.length c0, .int .i64 a4] (by rfl) rfl rfl (by (try simp only [List.map_toArray, List.map_cons, List.map_nil]); first | done | rfl | (simp only [List.length_drop, List.length_take]; rfl)) ?_
              with_reducible refine (revetmentref01_Pad.calls k _ _ l0 a4 t124 _ ?side1 ?side2 A25.out).mono ?_
              (case side1 => repeat (first | exact (Kd.C_below HR0.out HB.out) | (with_reducible refine Kd.C_alloc ?_ _) | (with_reducible refine Kd.C_drewN ?_ _) | (with_reducible refine Kd.C_drew ?_)))
              (case side2 => exact HC0.out)
              rintro e w45 ⟨v125, rfl, ho0, hb⟩
              refine ⟨_, rfl, ?_⟩
              have n0_ := am (Kd.R_elder' (by (with_reducible repeat (first | apply pq0 | apply pq1 | apply pq2)); exact HO105.out) (Kd.R_base ho0) hb)
              have n1_ := am (Kd.R_elder' (by (with_reducible repeat (first | apply pq0 | apply pq1 | apply pq2)); exact HO108.out) (Kd.R_base ho0) hb)
              have n2_ := am (Kd.R_elder' (by (with_reducible repeat (first | apply pq0 | apply pq1 | apply pq2)); exact HO111.out) (Kd.R_base ho0) hb)
              have n3_ := am (Kd.R_elder' (by (with_reducible repeat (first | apply pq0 | apply pq1 | apply pq2)); exact HO114.out) (Kd.R_base ho0) hb)
              have n4_ := am (Kd.R_elder' (by (with_reducible repeat (first | apply pq0 | apply pq1 | apply pq2)); exact HO117.out) (Kd.R_base ho0) hb)
              have n5_ := am (Kd.R_elder' (by (with_reducible repeat (first | apply pq0 | apply pq1 | apply pq2)); exact HO120.out) (Kd.R_base ho0) hb)
              have n6_ := am (Kd.R_elder' (by (with_reducible repeat (first | apply pq0 | apply pq1 | apply pq2)); exact HO123.out) (Kd.R_base ho0) hb)
              have n7_ := am (Kd.R_lower (Kd.R_new' (Kd.R_new' (Kd.R_new' (Kd.R_new' (Kd.R_new' (Kd.R_new' (Kd.R_new' ho0 (Kd.R_lt (by (with_reducible repeat (first | apply pq0 | apply pq1 | apply pq2)); exact HO105.out))) (Kd.R_lt (by (with_reducible repeat (first | apply pq0 | apply pq1 | apply pq2)); exact HO108.out))) (Kd.R_lt (by (with_reducible repeat (first | apply pq0 | apply pq1 | apply pq2)); exact HO111.out))) (Kd.R_lt (by (with_reducible repeat (first | apply pq0 | apply pq1 | apply pq2)); exact HO114.out))) (Kd.R_lt (by (with_reducible repeat (first | apply pq0 | apply pq1 | apply pq2)); exact HO117.out))) (Kd.R_lt (by (with_reducible repeat (first | apply pq0 | apply pq1 | apply pq2)); exact HO120.out))) (Kd.R_lt (by (with_reducible repeat (first | apply pq0 | apply pq1 | apply pq2)); exact HO123.out))) (below_size (by repeat (first | exact HB.out | apply pq3 | apply pq4 | apply pq5))))
              have n8_ := am (below_step (by repeat (first | exact HB.out | apply pq3 | apply pq4 | apply pq5)) hb)
              clear HO105
              clear HO108
              clear HO111
              clear HO114
              clear HO117
              clear HO120
              clear HO123
              clear HB
              have HO105 := n0_
              have HO108 := n1_
              have HO111 := n2_
              have HO114 := n3_
              have HO117 := n4_
              have HO120 := n5_
              have HO123 := n6_
              have HO126 := n7_
              have HB := n8_
              clear n0_ n1_ n2_ n3_ n4_ n5_ n6_ n7_ n8_
              (try clear hb)
              (try clear hb2)
              (try clear hk)
              (try clear hi)
              (try clear ho0)
              refine hK.out _ _ trivial (fun hHeld => ?_)
              clear hK K
              refine norm_ (a' := ?_) ?_ ?_
              rotate_left
              ·show Act.put _ (some 64) _ = _
               simp only [Act.put, pq6, pq7, pq8, i64_w, i32_w]
               rfl
              exact norm_ (by first | (simp only [putAll, Act.put, pq6, pq7, pq8]; done) | (simp only [putAll, Act.put, pq6, pq7, pq8]; rfl)) (hJ3_6_7_13_14_17_18_25_26_29_30_37_38_41 (v107, v110, v113, v116, v119, v122, v125) _ ⟨(by (with_reducible repeat (first | apply pq0 | apply pq1 | apply pq2)); exact Kd.R_mono HO105.out (fun _ hk => ⟨hk.1.1, ⟨hk.1.2.1, ⟨hk.1.2.2.1, ⟨hk.1.2.2.2.1, ⟨hk.1.2.2.2.2.1, ⟨hk.1.2.2.2.2.2, hk.2⟩⟩⟩⟩⟩⟩)), (by (with_reducible repeat (first | apply pq0 | apply pq1 | apply pq2)); exact Kd.R_mono HO108.out (fun _ hk => ⟨hk.1.1, ⟨hk.1.2.1, ⟨hk.1.2.2.1, ⟨hk.1.2.2.2.1, ⟨hk.1.2.2.2.2.1, ⟨hk.1.2.2.2.2.2, hk.2⟩⟩⟩⟩⟩⟩)), (by (with_reducible repeat (first | apply pq0 | apply pq1 | apply pq2)); exact Kd.R_mono HO111.out (fun _ hk => ⟨hk.1.1, ⟨hk.1.2.1, ⟨hk.1.2.2.1, ⟨hk.1.2.2.2.1, ⟨hk.1.2.2.2.2.1, ⟨hk.1.2.2.2.2.2, hk.2⟩⟩⟩⟩⟩⟩)), (by (with_reducible repeat (first | apply pq0 | apply pq1 | apply pq2)); exact Kd.R_mono HO114.out (fun _ hk => ⟨hk.1.1, ⟨hk.1.2.1, ⟨hk.1.2.2.1, ⟨hk.1.2.2.2.1, ⟨hk.1.2.2.2.2.1, ⟨hk.1.2.2.2.2.2, hk.2⟩⟩⟩⟩⟩⟩)), (by (with_reducible repeat (first | apply pq0 | apply pq1 | apply pq2)); exact Kd.R_mono HO117.out (fun _ hk => ⟨hk.1.1, ⟨hk.1.2.1, ⟨hk.1.2.2.1, ⟨hk.1.2.2.2.1, ⟨hk.1.2.2.2.2.1, ⟨hk.1.2.2.2.2.2, hk.2⟩⟩⟩⟩⟩⟩)), (by (with_reducible repeat (first | apply pq0 | apply pq1 | apply pq2)); exact Kd.R_mono HO120.out (fun _ hk => ⟨hk.1.1, ⟨hk.1.2.1, ⟨hk.1.2.2.1, ⟨hk.1.2.2.2.1, ⟨hk.1.2.2.2.2.1, ⟨hk.1.2.2.2.2.2, hk.2⟩⟩⟩⟩⟩⟩)), (by (with_reducible repeat (first | apply pq0 | apply pq1 | apply pq2)); exact Kd.R_mono HO123.out (fun _ hk => ⟨hk.1.1, ⟨hk.1.2.1, ⟨hk.1.2.2.1, ⟨hk.1.2.2.2.1, ⟨hk.1.2.2.2.2.1, ⟨hk.1.2.2.2.2.2, hk.2⟩⟩⟩⟩⟩⟩)), (by (with_reducible repeat (first | apply pq0 | apply pq1 | apply pq2)); exact Kd.R_mono HO126.out (fun _ hk => ⟨hk.1.1.1.1.1.1.2, ⟨hk.1.1.1.1.1.2, ⟨hk.1.1.1.1.2, ⟨hk.1.1.1.2, ⟨hk.1.1.2, ⟨hk.1.2, hk.2⟩⟩⟩⟩⟩⟩)), (by repeat (first | exact HB.out | apply pq3 | apply pq4 | apply pq5))⟩)
            ·skip
             rintro ⟨v107, v110, v113, v116, v119, v122, v125⟩ w45 ⟨h0_, h1_, h2_, h3_, h4_, h5_, h6_, h7_, h8_⟩
             have n0_ : Aside0 (Kd.R (Kd.int .u8) 5 w45 w.heap.size (fun k_ => some k_ ≠ (v107 : Value).ownBlock ∧ some k_ ≠ (v110 : Value).ownBlock ∧ some k_ ≠ (v113 : Value).ownBlock ∧ some k_ ≠ (v116 : Value).ownBlock ∧ some k_ ≠ (v119 : Value).ownBlock ∧ some k_ ≠ (v122 : Value).ownBlock ∧ some k_ ≠ (v125 : Value).ownBlock) v104 t103) := ⟨h0_⟩
             have n1_ : Aside0 (Kd.R (Kd.int .u8) 5 w45 w.heap.size (fun k_ => some k_ ≠ (v104 : Value).ownBlock ∧ some k_ ≠ (v110 : Value).ownBlock ∧ some k_ ≠ (v113 : Value).ownBlock ∧ some k_ ≠ (v116 : Value).ownBlock ∧ some k_ ≠ (v119 : Value).ownBlock ∧ some k_ ≠ (v122 : Value).ownBlock ∧ some k_ ≠ (v125 : Value).ownBlock) v107 t106) := ⟨h1_⟩
             have n2_ : Aside0 (Kd.R (Kd.int .u8) 5 w45 w.heap.size (fun k_ => some k_ ≠ (v104 : Value).ownBlock ∧ some k_ ≠ (v107 : Value).ownBlock ∧ some k_ ≠ (v113 : Value).ownBlock ∧ some k_ ≠ (v116 : Value).ownBlock ∧ some k_ ≠ (v119 : Value).ownBlock ∧ some k_ ≠ (v122 : Value).ownBlock ∧ some k_ ≠ (v125 : Value).ownBlock) v110 t109) := ⟨h2_⟩
             have n3_ : Aside0 (Kd.R (Kd.int .u8) 5 w45 w.heap.size (fun k_ => some k_ ≠ (v104 : Value).ownBlock ∧ some k_ ≠ (v107 : Value).ownBlock ∧ some k_ ≠ (v110 : Value).ownBlock ∧ some k_ ≠ (v116 : Value).ownBlock ∧ some k_ ≠ (v119 : Value).ownBlock ∧ some k_ ≠ (v122 : Value).ownBlock ∧ some k_ ≠ (v125 : Value).ownBlock) v113 t112) := ⟨h3_⟩
             have n4_ : Aside0 (Kd.R (Kd.int .u8) 5 w45 w.heap.size (fun k_ => some k_ ≠ (v104 : Value).ownBlock ∧ some k_ ≠ (v107 : Value).ownBlock ∧ some k_ ≠ (v110 : Value).ownBlock ∧ some k_ ≠ (v113 : Value).ownBlock ∧ some k_ ≠ (v119 : Value).ownBlock ∧ some k_ ≠ (v122 : Value).ownBlock ∧ some k_ ≠ (v125 : Value).ownBlock) v116 t115) := ⟨h4_⟩
             have n5_ : Aside0 (Kd.R (Kd.int .u8) 5 w45 w.heap.size (fun k_ => some k_ ≠ (v104 : Value).ownBlock ∧ some k_ ≠ (v107 : Value).ownBlock ∧ some k_ ≠ (v110 : Value).ownBlock ∧ some k_ ≠ (v113 : Value).ownBlock ∧ some k_ ≠ (v116 : Value).ownBlock ∧ some k_ ≠ (v122 : Value).ownBlock ∧ some k_ ≠ (v125 : Value).ownBlock) v119 t118) := ⟨h5_⟩
             have n6_ : Aside0 (Kd.R (Kd.int .u8) 5 w45 w.heap.size (fun k_ => some k_ ≠ (v104 : Value).ownBlock ∧ some k_ ≠ (v107 : Value).ownBlock ∧ some k_ ≠ (v110 : Value).ownBlock ∧ some k_ ≠ (v113 : Value).ownBlock ∧ some k_ ≠ (v116 : Value).ownBlock ∧ some k_ ≠ (v119 : Value).ownBlock ∧ some k_ ≠ (v125 : Value).ownBlock) v122 t121) := ⟨h6_⟩
             have n7_ : Aside0 (Kd.R (Kd.int .u8) 5 w45 w.heap.size (fun k_ => some k_ ≠ (v104 : Value).ownBlock ∧ some k_ ≠ (v107 : Value).ownBlock ∧ some k_ ≠ (v110 : Value).ownBlock ∧ some k_ ≠ (v113 : Value).ownBlock ∧ some k_ ≠ (v116 : Value).ownBlock ∧ some k_ ≠ (v119 : Value).ownBlock ∧ some k_ ≠ (v122 : Value).ownBlock) v125 t124) := ⟨h7_⟩
             have n8_ : Aside0 (Below w.heap.size w w45) := ⟨h8_⟩
             clear HB
             clear h0_ h1_ h2_ h3_ h4_ h5_ h6_ h7_ h8_
             have HO105 := n0_
             have HO108 := n1_
             have HO111 := n2_
             have HO114 := n3_
             have HO117 := n4_
             have HO120 := n5_
             have HO123 := n6_
             have HO126 := n7_
             have HB := n8_
             clear n0_ n1_ n2_ n3_ n4_ n5_ n6_ n7_ n8_
             have hHeld := trivial
             refine norm_ (a' := ?_) ?_ ?_
             rotate_left
             ·simp only [putAll, Act.put, pq6, pq7, pq8]
              rfl
             refine one_ (i := 38) (N := some 61) packPuts_d6 rfl rfl (one_of HT_.out (by kernel_rfl)) (by decide) (fun K hK => ?_)
             have hcv46 := own_string (P := Try.prog) Try.underlying22 Try.underlying5 Try.underlying9 (Kd.own_of_R HO123.out); have hcv46d := fun m_ => own_string (P := Try.prog) Try.underlying22 Try.underlying5 Try.underlying9 (pw_own_drewN (Kd.own_of_R HO123.out) m_)
             refine value_ (w1 := ?_) (v := ?_) (by rfl) rfl ?_ ?_
             rotate_left 2
             ·go_simp
              constructor
              ·rfl
              ·rfl
             clear hcv46 hcv46d
             refine hK.out _ _ trivial (fun hHeld => ?_)
             clear hK K
             refine norm_ (a' := ?_) ?_ ?_
             rotate_left
             ·show Act.put _ (some 61) _ = _
              simp only [Act.put, pq6, pq7, pq8, i64_w, i32_w]
              rfl
             exact norm_ (by first | (simp only [putAll, Act.put, pq6, pq7, pq8]; done) | (simp only [putAll, Act.put, pq6, pq7, pq8]; rfl)) (hJ3_6_7_13_14_17_18_25_26_29_30_37_38_41_42 (v107, v110, v113, v116, v119, v122, v125) _ ⟨(by (with_reducible repeat (first | apply pq0 | apply pq1 | apply pq2)); exact HO105.out), (by (with_reducible repeat (first | apply pq0 | apply pq1 | apply pq2)); exact HO108.out), (by (with_reducible repeat (first | apply pq0 | apply pq1 | apply pq2)); exact HO111.out), (by (with_reducible repeat (first | apply pq0 | apply pq1 | apply pq2)); exact HO114.out), (by (with_reducible repeat (first | apply pq0 | apply pq1 | apply pq2)); exact HO117.out), (by (with_reducible repeat (first | apply pq0 | apply pq1 | apply pq2)); exact HO120.out), (by (with_reducible repeat (first | apply pq0 | apply pq1 | apply pq2)); exact HO123.out), (by (with_reducible repeat (first | apply pq0 | apply pq1 | apply pq2)); exact HO126.out), (by repeat (first | exact HB.out | apply pq3 | apply pq4 | apply pq5))⟩)
           ·skip
            rintro ⟨v107, v110, v113, v116, v119, v122, v125⟩ w45 ⟨h0_, h1_, h2_, h3_, h4_, h5_, h6_, h7_, h8_⟩
            have n0_ : Aside0 (Kd.R (Kd.int .u8) 5 w45 w.heap.size (fun k_ => some k_ ≠ (v107 : Value).ownBlock ∧ some k_ ≠ (v110 : Value).ownBlock ∧ some k_ ≠ (v113 : Value).ownBlock ∧ some k_ ≠ (v116 : Value).ownBlock ∧ some k_ ≠ (v119 : Value).ownBlock ∧ some k_ ≠ (v122 : Value).ownBlock ∧ some k_ ≠ (v125 : Value).ownBlock) v104 t103) := ⟨h0_⟩
            have n1_ : Aside0 (Kd.R (Kd.int .u8) 5 w45 w.heap.size (fun k_ => some k_ ≠ (v104 : Value).ownBlock ∧ some k_ ≠ (v110 : Value).ownBlock ∧ some k_ ≠ (v113 : Value).ownBlock ∧ some k_ ≠ (v116 : Value).ownBlock ∧ some k_ ≠ (v119 : Value).ownBlock ∧ some k_ ≠ (v122 : Value).ownBlock ∧ some k_ ≠ (v125 : Value).ownBlock) v107 t106) := ⟨h1_⟩
            have n2_ : Aside0 (Kd.R (Kd.int .u8) 5 w45 w.heap.size (fun k_ => some k_ ≠ (v104 : Value).ownBlock ∧ some k_ ≠ (v107 : Value).ownBlock ∧ some k_ ≠ (v113 : Value).ownBlock ∧ some k_ ≠ (v116 : Value).ownBlock ∧ some k_ ≠ (v119 : Value).ownBlock ∧ some k_ ≠ (v122 : Value).ownBlock ∧ some k_ ≠ (v125 : Value).ownBlock) v110 t109) := ⟨h2_⟩
            have n3_ : Aside0 (Kd.R (Kd.int .u8) 5 w45 w.heap.size (fun k_ => some k_ ≠ (v104 : Value).ownBlock ∧ some k_ ≠ (v107 : Value).ownBlock ∧ some k_ ≠ (v110 : Value).ownBlock ∧ some k_ ≠ (v116 : Value).ownBlock ∧ some k_ ≠ (v119 : Value).ownBlock ∧ some k_ ≠ (v122 : Value).ownBlock ∧ some k_ ≠ (v125 : Value).ownBlock) v113 t112) := ⟨h3_⟩
            have n4_ : Aside0 (Kd.R (Kd.int .u8) 5 w45 w.heap.size (fun k_ => some k_ ≠ (v104 : Value).ownBlock ∧ some k_ ≠ (v107 : Value).ownBlock ∧ some k_ ≠ (v110 : Value).ownBlock ∧ some k_ ≠ (v113 : Value).ownBlock ∧ some k_ ≠ (v119 : Value).ownBlock ∧ some k_ ≠ (v122 : Value).ownBlock ∧ some k_ ≠ (v125 : Value).ownBlock) v116 t115) := ⟨h4_⟩
            have n5_ : Aside0 (Kd.R (Kd.int .u8) 5 w45 w.heap.size (fun k_ => some k_ ≠ (v104 : Value).ownBlock ∧ some k_ ≠ (v107 : Value).ownBlock ∧ some k_ ≠ (v110 : Value).ownBlock ∧ some k_ ≠ (v113 : Value).ownBlock ∧ some k_ ≠ (v116 : Value).ownBlock ∧ some k_ ≠ (v122 : Value).ownBlock ∧ some k_ ≠ (v125 : Value).ownBlock) v119 t118) := ⟨h5_⟩
            have n6_ : Aside0 (Kd.R (Kd.int .u8) 5 w45 w.heap.size (fun k_ => some k_ ≠ (v104 : Value).ownBlock ∧ some k_ ≠ (v107 : Value).ownBlock ∧ some k_ ≠ (v110 : Value).ownBlock ∧ some k_ ≠ (v113 : Value).ownBlock ∧ some k_ ≠ (v116 : Value).ownBlock ∧ some k_ ≠ (v119 : Value).ownBlock ∧ some k_ ≠ (v125 : Value).ownBlock) v122 t121) := ⟨h6_⟩
            have n7_ : Aside0 (Kd.R (Kd.int .u8) 5 w45 w.heap.size (fun k_ => some k_ ≠ (v104 : Value).ownBlock ∧ some k_ ≠ (v107 : Value).ownBlock ∧ some k_ ≠ (v110 : Value).ownBlock ∧ some k_ ≠ (v113 : Value).ownBlock ∧ some k_ ≠ (v116 : Value).ownBlock ∧ some k_ ≠ (v119 : Value).ownBlock ∧ some k_ ≠ (v122 : Value).ownBlock) v125 t124) := ⟨h7_⟩
            have n8_ : Aside0 (Below w.heap.size w w45) := ⟨h8_⟩
            clear HB
            clear h0_ h1_ h2_ h3_ h4_ h5_ h6_ h7_ h8_
            have HO105 := n0_
            have HO108 := n1_
            have HO111 := n2_
            have HO114 := n3_
            have HO117 := n4_
            have HO120 := n5_
            have HO123 := n6_
            have HO126 := n7_
            have HB := n8_
            clear n0_ n1_ n2_ n3_ n4_ n5_ n6_ n7_ n8_
            have hHeld := trivial
            refine norm_ (a' := ?_) ?_ ?_
            rotate_left
            ·simp only [putAll, Act.put, pq6, pq7, pq8]
             rfl
            refine one_ (i := 42) (N := some 65) packPuts_d6 rfl rfl (one_of HT_.out (by kernel_rfl)) (by decide) (fun K hK => ?_)
            have hcv46 := own_string (P := Try.prog) Try.underlying22 Try.underlying5 Try.underlying9 (Kd.own_of_R HO126.out); have hcv46d := fun m_ => own_string (P := Try.prog) Try.underlying22 Try.underlying5 Try.underlying9 (pw_own_drewN (Kd.own_of_R HO126.out) m_)
            refine value_ (w1 := ?_) (v := ?_) (by rfl) rfl ?_ ?_
            rotate_left 2
            ·go_simp
             constructor
             ·rfl
             ·rfl
            clear hcv46 hcv46d
            refine hK.out _ _ trivial (fun hHeld => ?_)
            clear hK K
            refine norm_ (a' := ?_) ?_ ?_
            rotate_left
            ·show Act.put _ (some 65) _ = _
             simp only [Act.put, pq6, pq7, pq8, i64_w, i32_w]
             rfl
            exact norm_ (by first | (simp only [putAll, Act.put, pq6, pq7, pq8]; done) | (simp only [putAll, Act.put, pq6, pq7, pq8]; rfl)) (hJ3_6_7_13_14_17_18_25_26_29_30_37_38_41_42 (v107, v110, v113, v116, v119, v122, v125) _ ⟨(by (with_reducible repeat (first | apply pq0 | apply pq1 | apply pq2)); exact HO105.out), (by (with_reducible repeat (first | apply pq0 | apply pq1 | apply pq2)); exact HO108.out), (by (with_reducible repeat (first | apply pq0 | apply pq1 | apply pq2)); exact HO111.out), (by (with_reducible repeat (first | apply pq0 | apply pq1 | apply pq2)); exact HO114.out), (by (with_reducible repeat (first | apply pq0 | apply pq1 | apply pq2)); exact HO117.out), (by (with_reducible repeat (first | apply pq0 | apply pq1 | apply pq2)); exact HO120.out), (by (with_reducible repeat (first | apply pq0 | apply pq1 | apply pq2)); exact HO123.out), (by (with_reducible repeat (first | apply pq0 | apply pq1 | apply pq2)); exact HO126.out), (by repeat (first | exact HB.out | apply pq3 | apply pq4 | apply pq5))⟩)
          rintro ⟨v107, v110, v113, v116, v119, v122, v125⟩ w46 ⟨h0_, h1_, h2_, h3_, h4_, h5_, h6_, h7_, h8_⟩
          have n0_ : Aside0 (Kd.R (Kd.int .u8) 5 w46 w.heap.size (fun k_ => some k_ ≠ (v107 : Value).ownBlock ∧ some k_ ≠ (v110 : Value).ownBlock ∧ some k_ ≠ (v113 : Value).ownBlock ∧ some k_ ≠ (v116 : Value).ownBlock ∧ some k_ ≠ (v119 : Value).ownBlock ∧ some k_ ≠ (v122 : Value).ownBlock ∧ some k_ ≠ (v125 : Value).ownBlock) v104 t103) := ⟨h0_⟩
          have n1_ : Aside0 (Kd.R (Kd.int .u8) 5 w46 w.heap.size (fun k_ => some k_ ≠ (v104 : Value).ownBlock ∧ some k_ ≠ (v110 : Value).ownBlock ∧ some k_ ≠ (v113 : Value).ownBlock ∧ some k_ ≠ (v116 : Value).ownBlock ∧ some k_ ≠ (v119 : Value).ownBlock ∧ some k_ ≠ (v122 : Value).ownBlock ∧ some k_ ≠ (v125 : Value).ownBlock) v107 t106) := ⟨h1_⟩
          have n2_ : Aside0 (Kd.R (Kd.int .u8) 5 w46 w.heap.size (fun k_ => some k_ ≠ (v104 : Value).ownBlock ∧ some k_ ≠ (v107 : Value).ownBlock ∧ some k_ ≠ (v113 : Value).ownBlock ∧ some k_ ≠ (v116 : Value).ownBlock ∧ some k_ ≠ (v119 : Value).ownBlock ∧ some k_ ≠ (v122 : Value).ownBlock ∧ some k_ ≠ (v125 : Value).ownBlock) v110 t109) := ⟨h2_⟩
          have n3_ : Aside0 (Kd.R (Kd.int .u8) 5 w46 w.heap.size (fun k_ => some k_ ≠ (v104 : Value).ownBlock ∧ some k_ ≠ (v107 : Value).ownBlock ∧ some k_ ≠ (v110 : Value).ownBlock ∧ some k_ ≠ (v116 : Value).ownBlock ∧ some k_ ≠ (v119 : Value).ownBlock ∧ some k_ ≠ (v122 : Value).ownBlock ∧ some k_ ≠ (v125 : Value).ownBlock) v113 t112) := ⟨h3_⟩
          have n4_ : Aside0 (Kd.R (Kd.int .u8) 5 w46 w.heap.size (fun k_ => some k_ ≠ (v104 : Value).ownBlock ∧ some k_ ≠ (v107 : Value).ownBlock ∧ some k_ ≠ (v110 : Value).ownBlock ∧ some k_ ≠ (v113 : Value).ownBlock ∧ some k_ ≠ (v119 : Value).ownBlock ∧ some k_ ≠ (v122 : Value).ownBlock ∧ some k_ ≠ (v125 : Value).ownBlock) v116 t115) := ⟨h4_⟩
          have n5_ : Aside0 (Kd.R (Kd.int .u8) 5 w46 w.heap.size (fun k_ => some k_ ≠ (v104 : Value).ownBlock ∧ some k_ ≠ (v107 : Value).ownBlock ∧ some k_ ≠ (v110 : Value).ownBlock ∧ some k_ ≠ (v113 : Value).ownBlock ∧ some k_ ≠ (v116 : Value).ownBlock ∧ some k_ ≠ (v122 : Value).ownBlock ∧ some k_ ≠ (v125 : Value).ownBlock) v119 t118) := ⟨h5_⟩
          have n6_ : Aside0 (Kd.R (Kd.int .u8) 5 w46 w.heap.size (fun k_ => some k_ ≠ (v104 : Value).ownBlock ∧ some k_ ≠ (v107 : Value).ownBlock ∧ some k_ ≠ (v110 : Value).ownBlock ∧ some k_ ≠ (v113 : Value).ownBlock ∧ some k_ ≠ (v116 : Value).ownBlock ∧ some k_ ≠ (v119 : Value).ownBlock ∧ some k_ ≠ (v125 : Value).ownBlock) v122 t121) := ⟨h6_⟩
          have n7_ : Aside0 (Kd.R (Kd.int .u8) 5 w46 w.heap.size (fun k_ => some k_ ≠ (v104 : Value).ownBlock ∧ some k_ ≠ (v107 : Value).ownBlock ∧ some k_ ≠ (v110 : Value).ownBlock ∧ some k_ ≠ (v113 : Value).ownBlock ∧ some k_ ≠ (v116 : Value).ownBlock ∧ some k_ ≠ (v119 : Value).ownBlock ∧ some k_ ≠ (v122 : Value).ownBlock) v125 t124) := ⟨h7_⟩
          have n8_ : Aside0 (Below w.heap.size w w46) := ⟨h8_⟩
          clear HB
          clear h0_ h1_ h2_ h3_ h4_ h5_ h6_ h7_ h8_
          have HO105 := n0_
          have HO108 := n1_
          have HO111 := n2_
          have HO114 := n3_
          have HO117 := n4_
          have HO120 := n5_
          have HO123 := n6_
          have HO126 := n7_
          have HB := n8_
          clear n0_ n1_ n2_ n3_ n4_ n5_ n6_ n7_ n8_
          have hHeld := trivial
          refine norm_ (a' := ?_) ?_ ?_
          rotate_left
          ·simp only [putAll, Act.put, pq6, pq7, pq8]
           rfl
          refine pure_ (i := 43) (N := some 66) (v := ?_) (a' := ?_) packPuts_d55 rfl rfl (any_of HT_.out (by kernel_rfl)) (fun _ _ _ h => h) (Or.inl ⟨by rfl, ?_⟩) ?_ ?_
          rotate_left
          ·intro w'
           go_simp
           with_reducible rfl
          rotate_left
          ·simp only [Act.put, pq6, pq7, pq8, i64_w, i32_w]
           rfl
          refine pure_ (i := 44) (N := some 67) (v := ?_) (a' := ?_) packPuts_d56 rfl rfl (any_of HT_.out (by kernel_rfl)) (fun _ _ _ h => h) (Or.inl ⟨by rfl, ?_⟩) ?_ ?_
          rotate_left
          ·intro w'
           go_simp
           with_reducible rfl
          rotate_left
          ·simp only [Act.put, pq6, pq7, pq8, i64_w, i32_w]
           rfl
          refine pure_ (i := 45) (N := some 68) (v := ?_) (a' := ?_) packPuts_d57 rfl rfl (any_of HT_.out (by kernel_rfl)) (fun _ _ _ h => h) (Or.inl ⟨by rfl, ?_⟩) ?_ ?_
          rotate_left
          ·intro w'
           go_simp
           with_reducible rfl
          rotate_left
          ·simp only [Act.put, pq6, pq7, pq8, i64_w, i32_w]
           rfl
          refine one_ (i := 46) (N := some 69) packPuts_d58 rfl rfl (one_of HT_.out (by kernel_rfl)) (by decide) (fun K hK => ?_)
          refine goes_ Try.func25 (by kernel_rfl) rfl #[] (by rfl) rfl rfl (by (try simp only [List.map_toArray, List.map_cons, List.map_nil]); first | done | rfl | (simp only [List.length_drop, List.length_take]; rfl)) ?_
          with_reducible refine (revetmentlaw01_live.calls k  t127 _ A27.out).mono ?_
          rintro e w47 ⟨rfl, hb⟩
          refine ⟨_, rfl, ?_⟩
          have n0_ := am (Kd.R_below (by (with_reducible repeat (first | apply pq0 | apply pq1 | apply pq2)); exact HO105.out) hb)
          have n1_ := am (Kd.R_below (by (with_reducible repeat (first | apply pq0 | apply pq1 | apply pq2)); exact HO108.out) hb)
          have n2_ := am (Kd.R_below (by (with_reducible repeat (first | apply pq0 | apply pq1 | apply pq2)); exact HO111.out) hb)
          have n3_ := am (Kd.R_below (by (with_reducible repeat (first | apply pq0 | apply pq1 | apply pq2)); exact HO114.out) hb)
          have n4_ := am (Kd.R_below (by (with_reducible repeat (first | apply pq0 | apply pq1 | apply pq2)); exact HO117.out) hb)
          have n5_ := am (Kd.R_below (by (with_reducible repeat (first | apply pq0 | apply pq1 | apply pq2)); exact HO120.out) hb)
          have n6_ := am (Kd.R_below (by (with_reducible repeat (first | apply pq0 | apply pq1 | apply pq2)); exact HO123.out) hb)
          have n7_ := am (Kd.R_below (by (with_reducible repeat (first | apply pq0 | apply pq1 | apply pq2)); exact HO126.out) hb)
          have n8_ := am (below_step (by repeat (first | exact HB.out | apply pq3 | apply pq4 | apply pq5)) hb)
          clear HO105
          clear HO108
          clear HO111
          clear HO114
          clear HO117
          clear HO120
          clear HO123
          clear HO126
          clear HB
          have HO105 := n0_
          have HO108 := n1_
          have HO111 := n2_
          have HO114 := n3_
          have HO117 := n4_
          have HO120 := n5_
          have HO123 := n6_
          have HO126 := n7_
          have HB := n8_
          clear n0_ n1_ n2_ n3_ n4_ n5_ n6_ n7_ n8_
          (try clear hb)
          (try clear hb2)
          (try clear hk)
          (try clear hi)
          refine hK.out _ _ trivial (fun hHeld => ?_)
          clear hK K
          refine norm_ (a' := ?_) ?_ ?_
          rotate_left
          ·show Act.put _ (some 69) _ = _
           simp only [Act.put, pq6, pq7, pq8, i64_w, i32_w]
           rfl
          refine pure_ (i := 47) (N := some 70) (v := ?_) (a' := ?_) packPuts_d59 rfl rfl (any_of HT_.out (by kernel_rfl)) (fun _ _ _ h => h) (Or.inl ⟨by rfl, ?_⟩) ?_ ?_
          rotate_left
          ·intro w'
           go_simp
           with_reducible rfl
          rotate_left
          ·simp only [Act.put, pq6, pq7, pq8, i64_w, i32_w]
           rfl
          refine pure_ (i := 48) (N := some 10) (v := ?_) (a' := ?_) packPuts_d60 rfl rfl (any_of HT_.out (by kernel_rfl)) (fun _ _ _ h => h) (Or.inl ⟨by rfl, ?_⟩) ?_ ?_
          rotate_left
          ·intro w'
           go_simp
           with_reducible rfl
          rotate_left
          ·simp only [Act.put, pq6, pq7, pq8, i64_w, i32_w]
           rfl
          refine done_ (done_of HT_.out (by kernel_rfl)) ?_
          try go_wp2
          go_ret
          exact ⟨by first | rfl | (simp [errW_none, errW_some] <;> rfl) | (simp [*, errW_none, errW_some] <;> rfl), by repeat (first | exact HB.out | apply pq3 | apply pq4 | apply pq5)⟩
         ·rw [if_neg c26] at H
          exact absurd H (by simp)
        ·rw [if_neg c23] at H
         exact absurd H (by simp)
       ·rw [if_neg c22] at H
        exact absurd H (by simp)
      ·rw [if_neg c19] at H
       exact absurd H (by simp)
     ·rw [if_neg c18] at H
      exact absurd H (by simp)
    ·rw [if_neg c15] at H
     exact absurd H (by simp)
   ·rw [if_neg c14] at H
    exact absurd H (by simp)

end Go.Proofs.Ytimpefahapkmhaa.M
