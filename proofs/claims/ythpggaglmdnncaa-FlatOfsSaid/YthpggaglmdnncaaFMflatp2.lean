-- Written by wip/tools/mine.py (a program of this session, over the kit's print and texts of its own).
import Derived.Test.YthpggaglmdnncaaFM0
import Derived.Test.YthpggaglmdnncaaFMx
import Derived.Test.YthpggaglmdnncaaFMflat
namespace Go.Proofs.Ythpggaglmdnncaa.M
open Go.RowKit Go.Proofs.YthpggaglmdnncaaW.PrintWords Go.Proofs.YthpggaglmdnncaaW.PrintLast Go.Proofs.YthpggaglmdnncaaW.PrintMore Go.Proofs.YthpggaglmdnncaaW.MyWords

set_option linter.unusedVariables false
set_option linter.unusedSimpArgs false

/-! ### flat_Join: function 81 -/
def flat_Join.l0 : Nat → List (S70) → List (S70) → Int → Int → Option ((List (S70)))
  | 0, _, _, _, _ => none
  | k + 1, x3, x7, x8, x9 => if x9 < x8 then (if 0 ≤ x9 then (if x9 < (x7.length : Int) then (if ((rd_T70 x7 x9).f2) < 1 then (flat_Join.l0 k x3 x7 x8 (wrap64 (x9 + 1))) else (if (wrap64 ((x3.length : Int) - 1)) ≥ 0 then (if 0 ≤ (wrap64 ((x3.length : Int) - 1)) then (if (wrap64 ((x3.length : Int) - 1)) < (x3.length : Int) then ((flat_behind.f ((rd_T70 x3 (wrap64 ((x3.length : Int) - 1))).f0) ((rd_T70 x3 (wrap64 ((x3.length : Int) - 1))).f1) ((rd_T70 x3 (wrap64 ((x3.length : Int) - 1))).f2)).bind fun bt104 => (if (bt104.1 == ((rd_T70 x7 x9).f0) && (bt104.2.1 == ((rd_T70 x7 x9).f1) && (bt104.2.2 == 0))) = true then (flat_Join.l0 k (x3.set ((wrap64 ((x3.length : Int) - 1)) : Int).toNat (⟨(rd_T70 x3 (wrap64 ((x3.length : Int) - 1))).f0, (rd_T70 x3 (wrap64 ((x3.length : Int) - 1))).f1, wrap64 (((rd_T70 x3 (wrap64 ((x3.length : Int) - 1))).f2) + ((rd_T70 x7 x9).f2))⟩ : S70)) x7 x8 (wrap64 (x9 + 1))) else (if x3.length < 5864062014805 then (flat_Join.l0 k (x3 ++ [(⟨(rd_T70 x7 x9).f0, (rd_T70 x7 x9).f1, (rd_T70 x7 x9).f2⟩ : S70)]) x7 x8 (wrap64 (x9 + 1))) else (none)))) else (none)) else (none)) else (if x3.length < 5864062014805 then (flat_Join.l0 k (x3 ++ [(⟨(rd_T70 x7 x9).f0, (rd_T70 x7 x9).f1, (rd_T70 x7 x9).f2⟩ : S70)]) x7 x8 (wrap64 (x9 + 1))) else (none)))) else (none)) else (none)) else (some x3)
def flat_Join.f (k : Nat) (l0 : List (S70)) : Option ((List (S70))) := flat_Join.l0 k ([] : List (S70)) l0 (l0.length : Int) 0
/-! ### flat_Blocks: function 82 -/
def flat_Blocks.l0 : Nat → Int → List (S70) → Int → Int → Option (Int)
  | 0, _, _, _, _ => none
  | k + 1, x3, x6, x7, x8 => if x8 < x7 then (if 0 ≤ x8 then (if x8 < (x6.length : Int) then (flat_Blocks.l0 k (wrap64 (x3 + (mn (mx ((rd_T70 x6 x8).f2) 0) 1099511627776))) x6 x7 (wrap64 (x8 + 1))) else (none)) else (none)) else (some x3)
def flat_Blocks.f (k : Nat) (l0 : List (S70)) : Option (Int) := flat_Blocks.l0 k 0 l0 (l0.length : Int) 0
end Go.Proofs.Ythpggaglmdnncaa.M
