-- Written by wip/tools/mine.py (a program of this session, over the kit's print and texts of its own).
import Derived.Test.YthpggaglmdnncaaFM0
namespace Go.Proofs.Ythpggaglmdnncaa.M
open Go.RowKit Go.Proofs.YthpggaglmdnncaaW.PrintWords Go.Proofs.YthpggaglmdnncaaW.PrintLast Go.Proofs.YthpggaglmdnncaaW.PrintMore Go.Proofs.YthpggaglmdnncaaW.MyWords

set_option linter.unusedVariables false
set_option linter.unusedSimpArgs false

/-! ### revetmentref33_Join: function 83 -/
def revetmentref33_Join.l0 : Nat → List (S70) → List (S70) → Int → Option ((List (S70)))
  | 0, _, _, _ => none
  | k + 1, x0, x3, x4 => if x4 < (x0.length : Int) then (if 0 ≤ x4 then (if ((rd_T70 x0 x4).f2) < 1 then (revetmentref33_Join.l0 k x0 x3 (wrap64 (x4 + 1))) else (if (wrap64 ((x3.length : Int) - 1)) ≥ 0 then (if 0 ≤ (wrap64 ((x3.length : Int) - 1)) then (if (wrap64 ((x3.length : Int) - 1)) < (x3.length : Int) then (if ((rd_T70 x3 (wrap64 ((x3.length : Int) - 1))).f0) = ((rd_T70 x0 x4).f0) then (if (wrap64 (((rd_T70 x3 (wrap64 ((x3.length : Int) - 1))).f1) + ((rd_T70 x3 (wrap64 ((x3.length : Int) - 1))).f2))) = ((rd_T70 x0 x4).f1) then (revetmentref33_Join.l0 k x0 (x3.set ((wrap64 ((x3.length : Int) - 1)) : Int).toNat (⟨(rd_T70 x3 (wrap64 ((x3.length : Int) - 1))).f0, (rd_T70 x3 (wrap64 ((x3.length : Int) - 1))).f1, wrap64 (((rd_T70 x3 (wrap64 ((x3.length : Int) - 1))).f2) + ((rd_T70 x0 x4).f2))⟩ : S70)) (wrap64 (x4 + 1))) else (if x3.length < 5864062014805 then (revetmentref33_Join.l0 k x0 (x3 ++ [(⟨(rd_T70 x0 x4).f0, (rd_T70 x0 x4).f1, (rd_T70 x0 x4).f2⟩ : S70)]) (wrap64 (x4 + 1))) else (none))) else (if x3.length < 5864062014805 then (revetmentref33_Join.l0 k x0 (x3 ++ [(⟨(rd_T70 x0 x4).f0, (rd_T70 x0 x4).f1, (rd_T70 x0 x4).f2⟩ : S70)]) (wrap64 (x4 + 1))) else (none))) else (none)) else (none)) else (if x3.length < 5864062014805 then (revetmentref33_Join.l0 k x0 (x3 ++ [(⟨(rd_T70 x0 x4).f0, (rd_T70 x0 x4).f1, (rd_T70 x0 x4).f2⟩ : S70)]) (wrap64 (x4 + 1))) else (none)))) else (none)) else (some x3)
def revetmentref33_Join.f (k : Nat) (l0 : List (S70)) : Option ((List (S70))) := revetmentref33_Join.l0 k l0 ([] : List (S70)) 0
end Go.Proofs.Ythpggaglmdnncaa.M
