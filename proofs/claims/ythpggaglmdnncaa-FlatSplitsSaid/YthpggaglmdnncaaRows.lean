/-
  No cell of these rows narrows 'for every input' (looked for: loops, veiled, ifaces, maps, wideKeys, modest, calm, conditions, laid).
  DERIVED. THE GIVEN ROWS OF THIS SEAT. 12 by the template 'for every input the law returns true; each argument reads behind the call as it read before'; 0 by the template 'total and deterministic' (their statements: YthpggaglmdnncaaTotals.lean).
  GIVEN WITH THE SEED: the statements are not yours to turn. If you find one false, say at which input.
  Laid BY PROGRAM, IN A SANDBOX (cutbox-rows.mjs): the forced cells as the released guide's own fill.sh prints them over the translation 06f92aa2e99bdd9c… (all of the seat's roots in one cut). By AI agents, Wed Nov 11 2026. No macro, syntax, notation, axiom, sorry.
-/
import Derived.Test.YthpggaglmdnncaaChecked
import GoSem.Claim
import GoSem.ClaimJoined
import GoSem.ClaimMapViews
import Derived.JoinedTies
import Derived.KernelRfl
namespace Go.Proofs.Ythpggaglmdnncaa
/- THE CELL 'sum', in the pinned program and in every row, IS THE sha256 OF THE DUMP (.gsa) THAT YthpggaglmdnncaaProg.lean LOADS. Nothing in Lean hashes anything: it is a label: what it is worth is what the hold of that sum in a sandbox is worth. -/
noncomputable def Try.pinned : Pinned := { name := "ythpggaglmdnncaa", sum := "06f92aa2e99bdd9c9cd5681c562557830a51840363c50c507c4c2bb70a5375b3", checked := Try.checked }
namespace Rows
def none {H : Type} : Left H := { results := [], args := [] }

/-- 'revetmentlaw01.PackReads': WHATEVER THE INPUT: true; the input reads as it did. -/
def packReadsSpec : ChangeSpec := { name := "packReads", fn := fun _ => fun
  | [d1, d2] => { results := [.lit (.bool true)], args := [d1, d2] }
  | _ => none }
def packReadsRow : OpenClaim := { program := "ythpggaglmdnncaa", sum := "06f92aa2e99bdd9c9cd5681c562557830a51840363c50c507c4c2bb70a5375b3", func := "revetment/revetmentlaw01.PackReads", spec := "packReads", apart := false }
def PackReadsSaid : Prop := packReadsRow.holds Try.pinned (OpenSpec.ofChange packReadsSpec)

/-- ITS FALSE NEIGHBOUR: 'it returns false'. Refute it at one input. -/
def packReadsWrong : ChangeSpec := { name := "packReads", fn := fun _ => fun
  | [d1, d2] => { results := [.lit (.bool false)], args := [d1, d2] }
  | _ => none }
def PackReadsWrongFalsely : Prop := packReadsRow.holds Try.pinned (OpenSpec.ofChange packReadsWrong)

/-- 'revetmentlaw03.XorParts': WHATEVER THE INPUT: true; the input reads as it did. -/
def xorPartsSpec : ChangeSpec := { name := "xorParts", fn := fun _ => fun
  | [d1, d2, d3] => { results := [.lit (.bool true)], args := [d1, d2, d3] }
  | _ => none }
def xorPartsRow : OpenClaim := { program := "ythpggaglmdnncaa", sum := "06f92aa2e99bdd9c9cd5681c562557830a51840363c50c507c4c2bb70a5375b3", func := "revetment/revetmentlaw03.XorParts", spec := "xorParts", unfollowed := true, recurses := true, apart := false }
def XorPartsSaid : Prop := xorPartsRow.holds Try.pinned (OpenSpec.ofChange xorPartsSpec)

/-- ITS FALSE NEIGHBOUR: 'it returns false'. Refute it at one input. -/
def xorPartsWrong : ChangeSpec := { name := "xorParts", fn := fun _ => fun
  | [d1, d2, d3] => { results := [.lit (.bool false)], args := [d1, d2, d3] }
  | _ => none }
def XorPartsWrongFalsely : Prop := xorPartsRow.holds Try.pinned (OpenSpec.ofChange xorPartsWrong)

/-- 'revetmentlaw04.ZoneSafe': WHATEVER THE INPUT: true; the input reads as it did. -/
def zoneSafeSpec : ChangeSpec := { name := "zoneSafe", fn := fun _ => fun
  | [d1, d2, d3] => { results := [.lit (.bool true)], args := [d1, d2, d3] }
  | _ => none }
def zoneSafeRow : OpenClaim := { program := "ythpggaglmdnncaa", sum := "06f92aa2e99bdd9c9cd5681c562557830a51840363c50c507c4c2bb70a5375b3", func := "revetment/revetmentlaw04.ZoneSafe", spec := "zoneSafe", apart := false }
def ZoneSafeSaid : Prop := zoneSafeRow.holds Try.pinned (OpenSpec.ofChange zoneSafeSpec)

/-- ITS FALSE NEIGHBOUR: 'it returns false'. Refute it at one input. -/
def zoneSafeWrong : ChangeSpec := { name := "zoneSafe", fn := fun _ => fun
  | [d1, d2, d3] => { results := [.lit (.bool false)], args := [d1, d2, d3] }
  | _ => none }
def ZoneSafeWrongFalsely : Prop := zoneSafeRow.holds Try.pinned (OpenSpec.ofChange zoneSafeWrong)

/-- 'revetmentlaw33.FlatOfs': WHATEVER THE INPUT: true; the input reads as it did. -/
def flatOfsSpec : ChangeSpec := { name := "flatOfs", fn := fun _ => fun
  | [d1, d2, d3] => { results := [.lit (.bool true)], args := [d1, d2, d3] }
  | _ => none }
def flatOfsRow : OpenClaim := { program := "ythpggaglmdnncaa", sum := "06f92aa2e99bdd9c9cd5681c562557830a51840363c50c507c4c2bb70a5375b3", func := "revetment/revetmentlaw33.FlatOfs", spec := "flatOfs", unfollowed := true, recurses := true, apart := false }
def FlatOfsSaid : Prop := flatOfsRow.holds Try.pinned (OpenSpec.ofChange flatOfsSpec)

/-- ITS FALSE NEIGHBOUR: 'it returns false'. Refute it at one input. -/
def flatOfsWrong : ChangeSpec := { name := "flatOfs", fn := fun _ => fun
  | [d1, d2, d3] => { results := [.lit (.bool false)], args := [d1, d2, d3] }
  | _ => none }
def FlatOfsWrongFalsely : Prop := flatOfsRow.holds Try.pinned (OpenSpec.ofChange flatOfsWrong)

/-- 'revetmentlaw04.ZonePlays': WHATEVER THE INPUT: true; the input reads as it did. -/
def zonePlaysSpec : ChangeSpec := { name := "zonePlays", fn := fun _ => fun
  | [d1, d2, d3] => { results := [.lit (.bool true)], args := [d1, d2, d3] }
  | _ => none }
def zonePlaysRow : OpenClaim := { program := "ythpggaglmdnncaa", sum := "06f92aa2e99bdd9c9cd5681c562557830a51840363c50c507c4c2bb70a5375b3", func := "revetment/revetmentlaw04.ZonePlays", spec := "zonePlays", apart := false }
def ZonePlaysSaid : Prop := zonePlaysRow.holds Try.pinned (OpenSpec.ofChange zonePlaysSpec)

/-- ITS FALSE NEIGHBOUR: 'it returns false'. Refute it at one input. -/
def zonePlaysWrong : ChangeSpec := { name := "zonePlays", fn := fun _ => fun
  | [d1, d2, d3] => { results := [.lit (.bool false)], args := [d1, d2, d3] }
  | _ => none }
def ZonePlaysWrongFalsely : Prop := zonePlaysRow.holds Try.pinned (OpenSpec.ofChange zonePlaysWrong)

/-- 'revetmentlaw01.PackBack': WHATEVER THE INPUT: true; the input reads as it did. -/
def packBackSpec : ChangeSpec := { name := "packBack", fn := fun _ => fun
  | [d1, d2, d3, d4] => { results := [.lit (.bool true)], args := [d1, d2, d3, d4] }
  | _ => none }
def packBackRow : OpenClaim := { program := "ythpggaglmdnncaa", sum := "06f92aa2e99bdd9c9cd5681c562557830a51840363c50c507c4c2bb70a5375b3", func := "revetment/revetmentlaw01.PackBack", spec := "packBack", apart := false }
def PackBackSaid : Prop := packBackRow.holds Try.pinned (OpenSpec.ofChange packBackSpec)

/-- ITS FALSE NEIGHBOUR: 'it returns false'. Refute it at one input. -/
def packBackWrong : ChangeSpec := { name := "packBack", fn := fun _ => fun
  | [d1, d2, d3, d4] => { results := [.lit (.bool false)], args := [d1, d2, d3, d4] }
  | _ => none }
def PackBackWrongFalsely : Prop := packBackRow.holds Try.pinned (OpenSpec.ofChange packBackWrong)

/-- 'revetmentlaw19.BitmapPlays': WHATEVER THE INPUT: true; the input reads as it did. -/
def bitmapPlaysSpec : ChangeSpec := { name := "bitmapPlays", fn := fun _ => fun
  | [d1, d2, d3] => { results := [.lit (.bool true)], args := [d1, d2, d3] }
  | _ => none }
def bitmapPlaysRow : OpenClaim := { program := "ythpggaglmdnncaa", sum := "06f92aa2e99bdd9c9cd5681c562557830a51840363c50c507c4c2bb70a5375b3", func := "revetment/revetmentlaw19.BitmapPlays", spec := "bitmapPlays", apart := false }
def BitmapPlaysSaid : Prop := bitmapPlaysRow.holds Try.pinned (OpenSpec.ofChange bitmapPlaysSpec)

/-- ITS FALSE NEIGHBOUR: 'it returns false'. Refute it at one input. -/
def bitmapPlaysWrong : ChangeSpec := { name := "bitmapPlays", fn := fun _ => fun
  | [d1, d2, d3] => { results := [.lit (.bool false)], args := [d1, d2, d3] }
  | _ => none }
def BitmapPlaysWrongFalsely : Prop := bitmapPlaysRow.holds Try.pinned (OpenSpec.ofChange bitmapPlaysWrong)

/-- 'revetmentlaw27.CmdSames': WHATEVER THE INPUT: true; the input reads as it did. -/
def cmdSamesSpec : ChangeSpec := { name := "cmdSames", fn := fun _ => fun
  | [d1, d2, d3] => { results := [.lit (.bool true)], args := [d1, d2, d3] }
  | _ => none }
def cmdSamesRow : OpenClaim := { program := "ythpggaglmdnncaa", sum := "06f92aa2e99bdd9c9cd5681c562557830a51840363c50c507c4c2bb70a5375b3", func := "revetment/revetmentlaw27.CmdSames", spec := "cmdSames", apart := false }
def CmdSamesSaid : Prop := cmdSamesRow.holds Try.pinned (OpenSpec.ofChange cmdSamesSpec)

/-- ITS FALSE NEIGHBOUR: 'it returns false'. Refute it at one input. -/
def cmdSamesWrong : ChangeSpec := { name := "cmdSames", fn := fun _ => fun
  | [d1, d2, d3] => { results := [.lit (.bool false)], args := [d1, d2, d3] }
  | _ => none }
def CmdSamesWrongFalsely : Prop := cmdSamesRow.holds Try.pinned (OpenSpec.ofChange cmdSamesWrong)

/-- 'revetmentlaw10.RecSames': WHATEVER THE INPUT: true; the input reads as it did. -/
def recSamesSpec : ChangeSpec := { name := "recSames", fn := fun _ => fun
  | [d1, d2] => { results := [.lit (.bool true)], args := [d1, d2] }
  | _ => none }
def recSamesRow : OpenClaim := { program := "ythpggaglmdnncaa", sum := "06f92aa2e99bdd9c9cd5681c562557830a51840363c50c507c4c2bb70a5375b3", func := "revetment/revetmentlaw10.RecSames", spec := "recSames", apart := false }
def RecSamesSaid : Prop := recSamesRow.holds Try.pinned (OpenSpec.ofChange recSamesSpec)

/-- ITS FALSE NEIGHBOUR: 'it returns false'. Refute it at one input. -/
def recSamesWrong : ChangeSpec := { name := "recSames", fn := fun _ => fun
  | [d1, d2] => { results := [.lit (.bool false)], args := [d1, d2] }
  | _ => none }
def RecSamesWrongFalsely : Prop := recSamesRow.holds Try.pinned (OpenSpec.ofChange recSamesWrong)

/-- 'revetmentlaw33.FlatSplits': WHATEVER THE INPUT: true; the input reads as it did. -/
def flatSplitsSpec : ChangeSpec := { name := "flatSplits", fn := fun _ => fun
  | [d1, d2, d3] => { results := [.lit (.bool true)], args := [d1, d2, d3] }
  | _ => none }
def flatSplitsRow : OpenClaim := { program := "ythpggaglmdnncaa", sum := "06f92aa2e99bdd9c9cd5681c562557830a51840363c50c507c4c2bb70a5375b3", func := "revetment/revetmentlaw33.FlatSplits", spec := "flatSplits", unfollowed := true, recurses := true, apart := false }
def FlatSplitsSaid : Prop := flatSplitsRow.holds Try.pinned (OpenSpec.ofChange flatSplitsSpec)

/-- ITS FALSE NEIGHBOUR: 'it returns false'. Refute it at one input. -/
def flatSplitsWrong : ChangeSpec := { name := "flatSplits", fn := fun _ => fun
  | [d1, d2, d3] => { results := [.lit (.bool false)], args := [d1, d2, d3] }
  | _ => none }
def FlatSplitsWrongFalsely : Prop := flatSplitsRow.holds Try.pinned (OpenSpec.ofChange flatSplitsWrong)

/-- 'revetmentlaw33.FlatJoins': WHATEVER THE INPUT: true; the input reads as it did. -/
def flatJoinsSpec : ChangeSpec := { name := "flatJoins", fn := fun _ => fun
  | [d] => { results := [.lit (.bool true)], args := [d] }
  | _ => none }
def flatJoinsRow : OpenClaim := { program := "ythpggaglmdnncaa", sum := "06f92aa2e99bdd9c9cd5681c562557830a51840363c50c507c4c2bb70a5375b3", func := "revetment/revetmentlaw33.FlatJoins", spec := "flatJoins", unfollowed := true, recurses := true, apart := false }
def FlatJoinsSaid : Prop := flatJoinsRow.holds Try.pinned (OpenSpec.ofChange flatJoinsSpec)

/-- ITS FALSE NEIGHBOUR: 'it returns false'. Refute it at one input. -/
def flatJoinsWrong : ChangeSpec := { name := "flatJoins", fn := fun _ => fun
  | [d] => { results := [.lit (.bool false)], args := [d] }
  | _ => none }
def FlatJoinsWrongFalsely : Prop := flatJoinsRow.holds Try.pinned (OpenSpec.ofChange flatJoinsWrong)

/-- 'revetmentlaw34.QueueMerges': WHATEVER THE INPUT: true; the input reads as it did. -/
def queueMergesSpec : ChangeSpec := { name := "queueMerges", fn := fun _ => fun
  | [d1, d2] => { results := [.lit (.bool true)], args := [d1, d2] }
  | _ => none }
def queueMergesRow : OpenClaim := { program := "ythpggaglmdnncaa", sum := "06f92aa2e99bdd9c9cd5681c562557830a51840363c50c507c4c2bb70a5375b3", func := "revetment/revetmentlaw34.QueueMerges", spec := "queueMerges", unfollowed := true, recurses := true, apart := false }
def QueueMergesSaid : Prop := queueMergesRow.holds Try.pinned (OpenSpec.ofChange queueMergesSpec)

/-- ITS FALSE NEIGHBOUR: 'it returns false'. Refute it at one input. -/
def queueMergesWrong : ChangeSpec := { name := "queueMerges", fn := fun _ => fun
  | [d1, d2] => { results := [.lit (.bool false)], args := [d1, d2] }
  | _ => none }
def QueueMergesWrongFalsely : Prop := queueMergesRow.holds Try.pinned (OpenSpec.ofChange queueMergesWrong)

/- THE SECOND FORM. 'bulk': how many values and letters a reading holds, each counted each time it is reached (what is shared counts as often as it is met; a slice's spare places count too). A statement '..UptoSaid' is the law's where the arguments, and the package variables that the reading takes, are together of bulk at most 1048576: NARROWER than '..Said'. Prove '..Said' where nothing that the law and all that it calls make is longer than what came in: it says more and counts as full. Else prove '..UptoSaid'. A law counts once. -/
mutual
def uptoBulk {H : Type} : DataW H → Nat
  | .lit (.string bytes) => bytes.length + 1
  | .lit _ => 1
  | .nil => 1
  | .ptr d => uptoBulk d + 1
  | .slice elems spare => uptoBulkAll elems + uptoBulkAll spare + 1
  | .agg parts => uptoBulkAll parts + 1
  | .iface _ d => uptoBulk d + 1
  | .map entries => uptoBulkEntries entries + 1
  | .held _ => 1
def uptoBulkAll {H : Type} : List (DataW H) → Nat
  | [] => 0
  | d :: r => uptoBulk d + uptoBulkAll r
def uptoBulkEntries {H : Type} : List (Lit × DataW H) → Nat
  | [] => 0
  | x :: r => uptoBulkEntry x + uptoBulkEntries r
def uptoBulkEntry {H : Type} : Lit × DataW H → Nat
  | (.string bytes, d) => bytes.length + uptoBulk d + 1
  | (_, d) => uptoBulk d + 1
 end
def uptoSmall : (H : Type) → List (DataW H) → Bool := fun _ ds => decide (uptoBulkAll ds ≤ 1048576)
def OpenSpec.upto (s : _root_.Go.ChangeSpec) : _root_.Go.OpenSpec := { _root_.Go.OpenSpec.ofChange s with cond := some uptoSmall }

/-- 'revetmentlaw01.PackReads', WHERE WHAT IT READS IS OF BULK AT MOST 1048576: true; the input reads as it did. -/
def packReadsUptoRow : OpenClaim := { program := "ythpggaglmdnncaa", sum := "06f92aa2e99bdd9c9cd5681c562557830a51840363c50c507c4c2bb70a5375b3", func := "revetment/revetmentlaw01.PackReads", spec := "packReads", apart := false, narrowed := true }
def PackReadsUptoSaid : Prop := packReadsUptoRow.holds Try.pinned (OpenSpec.upto packReadsSpec)

/-- 'revetmentlaw03.XorParts', WHERE WHAT IT READS IS OF BULK AT MOST 1048576: true; the input reads as it did. -/
def xorPartsUptoRow : OpenClaim := { program := "ythpggaglmdnncaa", sum := "06f92aa2e99bdd9c9cd5681c562557830a51840363c50c507c4c2bb70a5375b3", func := "revetment/revetmentlaw03.XorParts", spec := "xorParts", unfollowed := true, recurses := true, apart := false, narrowed := true }
def XorPartsUptoSaid : Prop := xorPartsUptoRow.holds Try.pinned (OpenSpec.upto xorPartsSpec)

/-- 'revetmentlaw04.ZoneSafe', WHERE WHAT IT READS IS OF BULK AT MOST 1048576: true; the input reads as it did. -/
def zoneSafeUptoRow : OpenClaim := { program := "ythpggaglmdnncaa", sum := "06f92aa2e99bdd9c9cd5681c562557830a51840363c50c507c4c2bb70a5375b3", func := "revetment/revetmentlaw04.ZoneSafe", spec := "zoneSafe", apart := false, narrowed := true }
def ZoneSafeUptoSaid : Prop := zoneSafeUptoRow.holds Try.pinned (OpenSpec.upto zoneSafeSpec)

/-- 'revetmentlaw33.FlatOfs', WHERE WHAT IT READS IS OF BULK AT MOST 1048576: true; the input reads as it did. -/
def flatOfsUptoRow : OpenClaim := { program := "ythpggaglmdnncaa", sum := "06f92aa2e99bdd9c9cd5681c562557830a51840363c50c507c4c2bb70a5375b3", func := "revetment/revetmentlaw33.FlatOfs", spec := "flatOfs", unfollowed := true, recurses := true, apart := false, narrowed := true }
def FlatOfsUptoSaid : Prop := flatOfsUptoRow.holds Try.pinned (OpenSpec.upto flatOfsSpec)

/-- 'revetmentlaw04.ZonePlays', WHERE WHAT IT READS IS OF BULK AT MOST 1048576: true; the input reads as it did. -/
def zonePlaysUptoRow : OpenClaim := { program := "ythpggaglmdnncaa", sum := "06f92aa2e99bdd9c9cd5681c562557830a51840363c50c507c4c2bb70a5375b3", func := "revetment/revetmentlaw04.ZonePlays", spec := "zonePlays", apart := false, narrowed := true }
def ZonePlaysUptoSaid : Prop := zonePlaysUptoRow.holds Try.pinned (OpenSpec.upto zonePlaysSpec)

/-- 'revetmentlaw01.PackBack', WHERE WHAT IT READS IS OF BULK AT MOST 1048576: true; the input reads as it did. -/
def packBackUptoRow : OpenClaim := { program := "ythpggaglmdnncaa", sum := "06f92aa2e99bdd9c9cd5681c562557830a51840363c50c507c4c2bb70a5375b3", func := "revetment/revetmentlaw01.PackBack", spec := "packBack", apart := false, narrowed := true }
def PackBackUptoSaid : Prop := packBackUptoRow.holds Try.pinned (OpenSpec.upto packBackSpec)

/-- 'revetmentlaw19.BitmapPlays', WHERE WHAT IT READS IS OF BULK AT MOST 1048576: true; the input reads as it did. -/
def bitmapPlaysUptoRow : OpenClaim := { program := "ythpggaglmdnncaa", sum := "06f92aa2e99bdd9c9cd5681c562557830a51840363c50c507c4c2bb70a5375b3", func := "revetment/revetmentlaw19.BitmapPlays", spec := "bitmapPlays", apart := false, narrowed := true }
def BitmapPlaysUptoSaid : Prop := bitmapPlaysUptoRow.holds Try.pinned (OpenSpec.upto bitmapPlaysSpec)

/-- 'revetmentlaw27.CmdSames', WHERE WHAT IT READS IS OF BULK AT MOST 1048576: true; the input reads as it did. -/
def cmdSamesUptoRow : OpenClaim := { program := "ythpggaglmdnncaa", sum := "06f92aa2e99bdd9c9cd5681c562557830a51840363c50c507c4c2bb70a5375b3", func := "revetment/revetmentlaw27.CmdSames", spec := "cmdSames", apart := false, narrowed := true }
def CmdSamesUptoSaid : Prop := cmdSamesUptoRow.holds Try.pinned (OpenSpec.upto cmdSamesSpec)

/-- 'revetmentlaw10.RecSames', WHERE WHAT IT READS IS OF BULK AT MOST 1048576: true; the input reads as it did. -/
def recSamesUptoRow : OpenClaim := { program := "ythpggaglmdnncaa", sum := "06f92aa2e99bdd9c9cd5681c562557830a51840363c50c507c4c2bb70a5375b3", func := "revetment/revetmentlaw10.RecSames", spec := "recSames", apart := false, narrowed := true }
def RecSamesUptoSaid : Prop := recSamesUptoRow.holds Try.pinned (OpenSpec.upto recSamesSpec)

/-- 'revetmentlaw33.FlatSplits', WHERE WHAT IT READS IS OF BULK AT MOST 1048576: true; the input reads as it did. -/
def flatSplitsUptoRow : OpenClaim := { program := "ythpggaglmdnncaa", sum := "06f92aa2e99bdd9c9cd5681c562557830a51840363c50c507c4c2bb70a5375b3", func := "revetment/revetmentlaw33.FlatSplits", spec := "flatSplits", unfollowed := true, recurses := true, apart := false, narrowed := true }
def FlatSplitsUptoSaid : Prop := flatSplitsUptoRow.holds Try.pinned (OpenSpec.upto flatSplitsSpec)

/-- 'revetmentlaw33.FlatJoins', WHERE WHAT IT READS IS OF BULK AT MOST 1048576: true; the input reads as it did. -/
def flatJoinsUptoRow : OpenClaim := { program := "ythpggaglmdnncaa", sum := "06f92aa2e99bdd9c9cd5681c562557830a51840363c50c507c4c2bb70a5375b3", func := "revetment/revetmentlaw33.FlatJoins", spec := "flatJoins", unfollowed := true, recurses := true, apart := false, narrowed := true }
def FlatJoinsUptoSaid : Prop := flatJoinsUptoRow.holds Try.pinned (OpenSpec.upto flatJoinsSpec)

/-- 'revetmentlaw34.QueueMerges', WHERE WHAT IT READS IS OF BULK AT MOST 1048576: true; the input reads as it did. -/
def queueMergesUptoRow : OpenClaim := { program := "ythpggaglmdnncaa", sum := "06f92aa2e99bdd9c9cd5681c562557830a51840363c50c507c4c2bb70a5375b3", func := "revetment/revetmentlaw34.QueueMerges", spec := "queueMerges", unfollowed := true, recurses := true, apart := false, narrowed := true }
def QueueMergesUptoSaid : Prop := queueMergesUptoRow.holds Try.pinned (OpenSpec.upto queueMergesSpec)

end Rows
end Go.Proofs.Ythpggaglmdnncaa
