/-
  No cell of these rows narrows 'for every input' (looked for: loops, veiled, ifaces, maps, wideKeys, modest, calm, conditions, laid).
  DERIVED. THE GIVEN ROWS OF THIS SEAT. 7 by the template 'for every input the law returns true; each argument reads behind the call as it read before'; 0 by the template 'total and deterministic' (their statements: YtlegolcbjjjofaaTotals.lean).
  GIVEN WITH THE SEED: the statements are not yours to turn. If you find one false, say at which input.
  Laid BY PROGRAM, IN A SANDBOX (cutbox-rows.mjs): the forced cells as the released guide's own fill.sh prints them over the translation 53fedf2edcbaecde… (all of the seat's roots in one cut). By AI agents, Wed Nov 11 2026. No macro, syntax, notation, axiom, sorry.
-/
import Derived.Test.YtlegolcbjjjofaaChecked
import GoSem.Claim
import GoSem.ClaimJoined
import GoSem.ClaimMapViews
import Derived.JoinedTies
import Derived.KernelRfl
namespace Go.Proofs.Ytlegolcbjjjofaa
/- THE CELL 'sum', in the pinned program and in every row, IS THE sha256 OF THE DUMP (.gsa) THAT YtlegolcbjjjofaaProg.lean LOADS. Nothing in Lean hashes anything: it is a label: what it is worth is what the hold of that sum in a sandbox is worth. -/
noncomputable def Try.pinned : Pinned := { name := "ytlegolcbjjjofaa", sum := "53fedf2edcbaecdec2f52b59ee5b2d2ff50b644defcdb34969b84734fc012927", checked := Try.checked }
namespace Rows
def none {H : Type} : Left H := { results := [], args := [] }

/-- 'revetmentlaw05.ZdevLimit': WHATEVER THE INPUT: true; the input reads as it did. -/
def zdevLimitSpec : ChangeSpec := { name := "zdevLimit", fn := fun _ => fun
  | [d1, d2] => { results := [.lit (.bool true)], args := [d1, d2] }
  | _ => none }
def zdevLimitRow : OpenClaim := { program := "ytlegolcbjjjofaa", sum := "53fedf2edcbaecdec2f52b59ee5b2d2ff50b644defcdb34969b84734fc012927", func := "revetment/revetmentlaw05.ZdevLimit", spec := "zdevLimit", unfollowed := true, recurses := true, apart := false }
def ZdevLimitSaid : Prop := zdevLimitRow.holds Try.pinned (OpenSpec.ofChange zdevLimitSpec)

/-- ITS FALSE NEIGHBOUR: 'it returns false'. Refute it at one input. -/
def zdevLimitWrong : ChangeSpec := { name := "zdevLimit", fn := fun _ => fun
  | [d1, d2] => { results := [.lit (.bool false)], args := [d1, d2] }
  | _ => none }
def ZdevLimitWrongFalsely : Prop := zdevLimitRow.holds Try.pinned (OpenSpec.ofChange zdevLimitWrong)

/-- 'revetmentlaw05.ZdevNils': WHATEVER THE INPUT: true; the input reads as it did. -/
def zdevNilsSpec : ChangeSpec := { name := "zdevNils", fn := fun _ => fun
  | [d1, d2] => { results := [.lit (.bool true)], args := [d1, d2] }
  | _ => none }
def zdevNilsRow : OpenClaim := { program := "ytlegolcbjjjofaa", sum := "53fedf2edcbaecdec2f52b59ee5b2d2ff50b644defcdb34969b84734fc012927", func := "revetment/revetmentlaw05.ZdevNils", spec := "zdevNils", unfollowed := true, recurses := true, apart := false }
def ZdevNilsSaid : Prop := zdevNilsRow.holds Try.pinned (OpenSpec.ofChange zdevNilsSpec)

/-- ITS FALSE NEIGHBOUR: 'it returns false'. Refute it at one input. -/
def zdevNilsWrong : ChangeSpec := { name := "zdevNils", fn := fun _ => fun
  | [d1, d2] => { results := [.lit (.bool false)], args := [d1, d2] }
  | _ => none }
def ZdevNilsWrongFalsely : Prop := zdevNilsRow.holds Try.pinned (OpenSpec.ofChange zdevNilsWrong)

/-- 'revetmentlaw11.StateApplies': WHATEVER THE INPUT: true; the input reads as it did. -/
def stateAppliesSpec : ChangeSpec := { name := "stateApplies", fn := fun _ => fun
  | [d1, d2] => { results := [.lit (.bool true)], args := [d1, d2] }
  | _ => none }
def stateAppliesRow : OpenClaim := { program := "ytlegolcbjjjofaa", sum := "53fedf2edcbaecdec2f52b59ee5b2d2ff50b644defcdb34969b84734fc012927", func := "revetment/revetmentlaw11.StateApplies", spec := "stateApplies", unfollowed := true, recurses := true, apart := false }
def StateAppliesSaid : Prop := stateAppliesRow.holds Try.pinned (OpenSpec.ofChange stateAppliesSpec)

/-- ITS FALSE NEIGHBOUR: 'it returns false'. Refute it at one input. -/
def stateAppliesWrong : ChangeSpec := { name := "stateApplies", fn := fun _ => fun
  | [d1, d2] => { results := [.lit (.bool false)], args := [d1, d2] }
  | _ => none }
def StateAppliesWrongFalsely : Prop := stateAppliesRow.holds Try.pinned (OpenSpec.ofChange stateAppliesWrong)

/-- 'revetmentlaw11.StateGoes': WHATEVER THE INPUT: true; the input reads as it did. -/
def stateGoesSpec : ChangeSpec := { name := "stateGoes", fn := fun _ => fun
  | [d1, d2] => { results := [.lit (.bool true)], args := [d1, d2] }
  | _ => none }
def stateGoesRow : OpenClaim := { program := "ytlegolcbjjjofaa", sum := "53fedf2edcbaecdec2f52b59ee5b2d2ff50b644defcdb34969b84734fc012927", func := "revetment/revetmentlaw11.StateGoes", spec := "stateGoes", unfollowed := true, recurses := true, apart := false }
def StateGoesSaid : Prop := stateGoesRow.holds Try.pinned (OpenSpec.ofChange stateGoesSpec)

/-- ITS FALSE NEIGHBOUR: 'it returns false'. Refute it at one input. -/
def stateGoesWrong : ChangeSpec := { name := "stateGoes", fn := fun _ => fun
  | [d1, d2] => { results := [.lit (.bool false)], args := [d1, d2] }
  | _ => none }
def StateGoesWrongFalsely : Prop := stateGoesRow.holds Try.pinned (OpenSpec.ofChange stateGoesWrong)

/-- 'revetmentlaw11.StateGets': WHATEVER THE INPUT: true; the input reads as it did. -/
def stateGetsSpec : ChangeSpec := { name := "stateGets", fn := fun _ => fun
  | [d] => { results := [.lit (.bool true)], args := [d] }
  | _ => none }
def stateGetsRow : OpenClaim := { program := "ytlegolcbjjjofaa", sum := "53fedf2edcbaecdec2f52b59ee5b2d2ff50b644defcdb34969b84734fc012927", func := "revetment/revetmentlaw11.StateGets", spec := "stateGets", unfollowed := true, recurses := true, apart := false }
def StateGetsSaid : Prop := stateGetsRow.holds Try.pinned (OpenSpec.ofChange stateGetsSpec)

/-- ITS FALSE NEIGHBOUR: 'it returns false'. Refute it at one input. -/
def stateGetsWrong : ChangeSpec := { name := "stateGets", fn := fun _ => fun
  | [d] => { results := [.lit (.bool false)], args := [d] }
  | _ => none }
def StateGetsWrongFalsely : Prop := stateGetsRow.holds Try.pinned (OpenSpec.ofChange stateGetsWrong)

/-- 'revetmentlaw11.StatePuts': WHATEVER THE INPUT: true; the input reads as it did. -/
def statePutsSpec : ChangeSpec := { name := "statePuts", fn := fun _ => fun
  | [d1, d2] => { results := [.lit (.bool true)], args := [d1, d2] }
  | _ => none }
def statePutsRow : OpenClaim := { program := "ytlegolcbjjjofaa", sum := "53fedf2edcbaecdec2f52b59ee5b2d2ff50b644defcdb34969b84734fc012927", func := "revetment/revetmentlaw11.StatePuts", spec := "statePuts", unfollowed := true, recurses := true, apart := false }
def StatePutsSaid : Prop := statePutsRow.holds Try.pinned (OpenSpec.ofChange statePutsSpec)

/-- ITS FALSE NEIGHBOUR: 'it returns false'. Refute it at one input. -/
def statePutsWrong : ChangeSpec := { name := "statePuts", fn := fun _ => fun
  | [d1, d2] => { results := [.lit (.bool false)], args := [d1, d2] }
  | _ => none }
def StatePutsWrongFalsely : Prop := statePutsRow.holds Try.pinned (OpenSpec.ofChange statePutsWrong)

/-- 'revetmentlaw40.WearPlays': WHATEVER THE INPUT: true; the input reads as it did. -/
def wearPlaysSpec : ChangeSpec := { name := "wearPlays", fn := fun _ => fun
  | [d1, d2] => { results := [.lit (.bool true)], args := [d1, d2] }
  | _ => none }
def wearPlaysRow : OpenClaim := { program := "ytlegolcbjjjofaa", sum := "53fedf2edcbaecdec2f52b59ee5b2d2ff50b644defcdb34969b84734fc012927", func := "revetment/revetmentlaw40.WearPlays", spec := "wearPlays", unfollowed := true, recurses := true, apart := false }
def WearPlaysSaid : Prop := wearPlaysRow.holds Try.pinned (OpenSpec.ofChange wearPlaysSpec)

/-- ITS FALSE NEIGHBOUR: 'it returns false'. Refute it at one input. -/
def wearPlaysWrong : ChangeSpec := { name := "wearPlays", fn := fun _ => fun
  | [d1, d2] => { results := [.lit (.bool false)], args := [d1, d2] }
  | _ => none }
def WearPlaysWrongFalsely : Prop := wearPlaysRow.holds Try.pinned (OpenSpec.ofChange wearPlaysWrong)

/- THE SECOND FORM. 'bulk': how many values and letters a reading holds, each counted each time it is reached (what is shared counts as often as it is met; a slice's spare places count too). A statement '..UptoSaid' is the law's where the arguments, and the package variables that the reading takes, are together of bulk at most 1048576: NARROWER than '..Said'. Prove '..Said' where nothing that the law and all that it calls make is longer than what came in: it says more and counts as full. Else prove '..UptoSaid'. A law counts once. -/
mutual
def uptoBulk {H : Type} : DataW H → Nat
  | .lit (.string bytes) => bytes.length + 1
  | .lit _ => 1
  | .nil => 1
  | .ptr d => uptoBulk d + 1
  | .slice elems spare => uptoBulkAll elems + uptoBulkAll spare + 1
  | .agg parts => uptoBulkAll parts + 1
  | .iface _ d => uptoBulk d + 1
  | .map entries => uptoBulkEntries entries + 1
  | .held _ => 1
def uptoBulkAll {H : Type} : List (DataW H) → Nat
  | [] => 0
  | d :: r => uptoBulk d + uptoBulkAll r
def uptoBulkEntries {H : Type} : List (Lit × DataW H) → Nat
  | [] => 0
  | x :: r => uptoBulkEntry x + uptoBulkEntries r
def uptoBulkEntry {H : Type} : Lit × DataW H → Nat
  | (.string bytes, d) => bytes.length + uptoBulk d + 1
  | (_, d) => uptoBulk d + 1
 end
def uptoSmall : (H : Type) → List (DataW H) → Bool := fun _ ds => decide (uptoBulkAll ds ≤ 1048576)
def OpenSpec.upto (s : _root_.Go.ChangeSpec) : _root_.Go.OpenSpec := { _root_.Go.OpenSpec.ofChange s with cond := some uptoSmall }

/-- 'revetmentlaw05.ZdevLimit', WHERE WHAT IT READS IS OF BULK AT MOST 1048576: true; the input reads as it did. -/
def zdevLimitUptoRow : OpenClaim := { program := "ytlegolcbjjjofaa", sum := "53fedf2edcbaecdec2f52b59ee5b2d2ff50b644defcdb34969b84734fc012927", func := "revetment/revetmentlaw05.ZdevLimit", spec := "zdevLimit", unfollowed := true, recurses := true, apart := false, narrowed := true }
def ZdevLimitUptoSaid : Prop := zdevLimitUptoRow.holds Try.pinned (OpenSpec.upto zdevLimitSpec)

/-- 'revetmentlaw05.ZdevNils', WHERE WHAT IT READS IS OF BULK AT MOST 1048576: true; the input reads as it did. -/
def zdevNilsUptoRow : OpenClaim := { program := "ytlegolcbjjjofaa", sum := "53fedf2edcbaecdec2f52b59ee5b2d2ff50b644defcdb34969b84734fc012927", func := "revetment/revetmentlaw05.ZdevNils", spec := "zdevNils", unfollowed := true, recurses := true, apart := false, narrowed := true }
def ZdevNilsUptoSaid : Prop := zdevNilsUptoRow.holds Try.pinned (OpenSpec.upto zdevNilsSpec)

/-- 'revetmentlaw11.StateApplies', WHERE WHAT IT READS IS OF BULK AT MOST 1048576: true; the input reads as it did. -/
def stateAppliesUptoRow : OpenClaim := { program := "ytlegolcbjjjofaa", sum := "53fedf2edcbaecdec2f52b59ee5b2d2ff50b644defcdb34969b84734fc012927", func := "revetment/revetmentlaw11.StateApplies", spec := "stateApplies", unfollowed := true, recurses := true, apart := false, narrowed := true }
def StateAppliesUptoSaid : Prop := stateAppliesUptoRow.holds Try.pinned (OpenSpec.upto stateAppliesSpec)

/-- 'revetmentlaw11.StateGoes', WHERE WHAT IT READS IS OF BULK AT MOST 1048576: true; the input reads as it did. -/
def stateGoesUptoRow : OpenClaim := { program := "ytlegolcbjjjofaa", sum := "53fedf2edcbaecdec2f52b59ee5b2d2ff50b644defcdb34969b84734fc012927", func := "revetment/revetmentlaw11.StateGoes", spec := "stateGoes", unfollowed := true, recurses := true, apart := false, narrowed := true }
def StateGoesUptoSaid : Prop := stateGoesUptoRow.holds Try.pinned (OpenSpec.upto stateGoesSpec)

/-- 'revetmentlaw11.StateGets', WHERE WHAT IT READS IS OF BULK AT MOST 1048576: true; the input reads as it did. -/
def stateGetsUptoRow : OpenClaim := { program := "ytlegolcbjjjofaa", sum := "53fedf2edcbaecdec2f52b59ee5b2d2ff50b644defcdb34969b84734fc012927", func := "revetment/revetmentlaw11.StateGets", spec := "stateGets", unfollowed := true, recurses := true, apart := false, narrowed := true }
def StateGetsUptoSaid : Prop := stateGetsUptoRow.holds Try.pinned (OpenSpec.upto stateGetsSpec)

/-- 'revetmentlaw11.StatePuts', WHERE WHAT IT READS IS OF BULK AT MOST 1048576: true; the input reads as it did. -/
def statePutsUptoRow : OpenClaim := { program := "ytlegolcbjjjofaa", sum := "53fedf2edcbaecdec2f52b59ee5b2d2ff50b644defcdb34969b84734fc012927", func := "revetment/revetmentlaw11.StatePuts", spec := "statePuts", unfollowed := true, recurses := true, apart := false, narrowed := true }
def StatePutsUptoSaid : Prop := statePutsUptoRow.holds Try.pinned (OpenSpec.upto statePutsSpec)

/-- 'revetmentlaw40.WearPlays', WHERE WHAT IT READS IS OF BULK AT MOST 1048576: true; the input reads as it did. -/
def wearPlaysUptoRow : OpenClaim := { program := "ytlegolcbjjjofaa", sum := "53fedf2edcbaecdec2f52b59ee5b2d2ff50b644defcdb34969b84734fc012927", func := "revetment/revetmentlaw40.WearPlays", spec := "wearPlays", unfollowed := true, recurses := true, apart := false, narrowed := true }
def WearPlaysUptoSaid : Prop := wearPlaysUptoRow.holds Try.pinned (OpenSpec.upto wearPlaysSpec)

end Rows
end Go.Proofs.Ytlegolcbjjjofaa
