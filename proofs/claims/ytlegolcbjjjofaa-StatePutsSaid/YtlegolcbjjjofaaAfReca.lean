/- Walks over the abstract machine: records as cells. -/
import Derived.Test.YtlegolcbjjjofaaAmFacts
import Derived.Test.YtlegolcbjjjofaaAmNum
namespace Go.Proofs.Ytlegolcbjjjofaa.AmF
open Go Go.AM
set_option maxRecDepth 100000
set_option linter.unusedSimpArgs false
set_option linter.unusedVariables false
attribute [local simp] tkeep tget tput ev cav argsTM pickA normT putA splice AV.cells ints_length rowsA_length
/-- A record. -/
structure Rc where
  kind : Int
  epoch : Int
  seq : Int
  zone : Int
  gen : Int
  slot : Int
  w : Int
  member : Int
  status : Int
  body : List Int
def Rc.l (x : Rc) : List Int := [x.kind, x.epoch, x.seq, x.zone, x.gen, x.slot, x.w, x.member, x.status]
def Rc.seven (x : Rc) : List Int := [x.epoch, x.seq, x.zone, x.gen, x.w, x.member, x.status]
def RcC (x : Rc) : List AV := [.int x.kind, .int x.epoch, .int x.seq, .int x.zone, .int x.gen, .int x.slot, .int x.w, .int x.member, .int x.status, .fz 1 (ints .u8 x.body)]
def RcB (x : Rc) : Blk := ⟨10, true, [.agg (RcC x)]⟩
theorem RcC_ren (ρ : Nat → Option Nat) (x : Rc) : renL ρ (RcC x) = RcC x := by simp [RcC, renL, AV.ren, renL_ints]
theorem RcB_ren (ρ : Nat → Option Nat) (x : Rc) : Blk.ren ρ (RcB x) = RcB x := by simp [RcB, Blk.ren, renL, AV.ren, RcC_ren]
abbrev Rc10 := Int × Int × Int × Int × Int × Int × Int × Int × Int × List Int
def rcOf (a : Rc10) : Rc := ⟨a.1, a.2.1, a.2.2.1, a.2.2.2.1, a.2.2.2.2.1, a.2.2.2.2.2.1, a.2.2.2.2.2.2.1, a.2.2.2.2.2.2.2.1, a.2.2.2.2.2.2.2.2.1, a.2.2.2.2.2.2.2.2.2⟩
end Go.Proofs.Ytlegolcbjjjofaa.AmF
