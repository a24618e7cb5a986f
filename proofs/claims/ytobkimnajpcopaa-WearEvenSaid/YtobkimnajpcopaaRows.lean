/-
  No cell of these rows narrows 'for every input' (looked for: loops, veiled, ifaces, maps, wideKeys, modest, calm, conditions, laid).
  DERIVED. THE GIVEN ROWS OF THIS SEAT. 10 by the template 'for every input the law returns true; each argument reads behind the call as it read before'; 0 by the template 'total and deterministic' (their statements: YtobkimnajpcopaaTotals.lean).
  GIVEN WITH THE SEED: the statements are not yours to turn. If you find one false, say at which input.
  Laid BY PROGRAM, IN A SANDBOX (cutbox-rows.mjs): the forced cells as the released guide's own fill.sh prints them over the translation 3121b0af4fd9892a… (all of the seat's roots in one cut). By AI agents, Wed Nov 11 2026. No macro, syntax, notation, axiom, sorry.
-/
import Derived.Test.YtobkimnajpcopaaChecked
import GoSem.Claim
import GoSem.ClaimJoined
import GoSem.ClaimMapViews
import Derived.JoinedTies
import Derived.KernelRfl
namespace Go.Proofs.Ytobkimnajpcopaa
/- THE CELL 'sum', in the pinned program and in every row, IS THE sha256 OF THE DUMP (.gsa) THAT YtobkimnajpcopaaProg.lean LOADS. Nothing in Lean hashes anything: it is a label: what it is worth is what the hold of that sum in a sandbox is worth. -/
noncomputable def Try.pinned : Pinned := { name := "ytobkimnajpcopaa", sum := "3121b0af4fd9892a28521071c8a51f7ef2d76f6c42c6aae772329799275e1d7c", checked := Try.checked }
namespace Rows
def none {H : Type} : Left H := { results := [], args := [] }

/-- 'revetmentlaw02.CrcParts': WHATEVER THE INPUT: true; the input reads as it did. -/
def crcPartsSpec : ChangeSpec := { name := "crcParts", fn := fun _ => fun
  | [d1, d2, d3] => { results := [.lit (.bool true)], args := [d1, d2, d3] }
  | _ => none }
def crcPartsRow : OpenClaim := { program := "ytobkimnajpcopaa", sum := "3121b0af4fd9892a28521071c8a51f7ef2d76f6c42c6aae772329799275e1d7c", func := "revetment/revetmentlaw02.CrcParts", spec := "crcParts", apart := false }
def CrcPartsSaid : Prop := crcPartsRow.holds Try.pinned (OpenSpec.ofChange crcPartsSpec)

/-- ITS FALSE NEIGHBOUR: 'it returns false'. Refute it at one input. -/
def crcPartsWrong : ChangeSpec := { name := "crcParts", fn := fun _ => fun
  | [d1, d2, d3] => { results := [.lit (.bool false)], args := [d1, d2, d3] }
  | _ => none }
def CrcPartsWrongFalsely : Prop := crcPartsRow.holds Try.pinned (OpenSpec.ofChange crcPartsWrong)

/-- 'revetmentlaw03.XorLacks': WHATEVER THE INPUT: true; the input reads as it did. -/
def xorLacksSpec : ChangeSpec := { name := "xorLacks", fn := fun _ => fun
  | [d1, d2, d3] => { results := [.lit (.bool true)], args := [d1, d2, d3] }
  | _ => none }
def xorLacksRow : OpenClaim := { program := "ytobkimnajpcopaa", sum := "3121b0af4fd9892a28521071c8a51f7ef2d76f6c42c6aae772329799275e1d7c", func := "revetment/revetmentlaw03.XorLacks", spec := "xorLacks", apart := false }
def XorLacksSaid : Prop := xorLacksRow.holds Try.pinned (OpenSpec.ofChange xorLacksSpec)

/-- ITS FALSE NEIGHBOUR: 'it returns false'. Refute it at one input. -/
def xorLacksWrong : ChangeSpec := { name := "xorLacks", fn := fun _ => fun
  | [d1, d2, d3] => { results := [.lit (.bool false)], args := [d1, d2, d3] }
  | _ => none }
def XorLacksWrongFalsely : Prop := xorLacksRow.holds Try.pinned (OpenSpec.ofChange xorLacksWrong)

/-- 'revetmentlaw40.WearOrders': WHATEVER THE INPUT: true; the input reads as it did. -/
def wearOrdersSpec : ChangeSpec := { name := "wearOrders", fn := fun _ => fun
  | [d1, d2] => { results := [.lit (.bool true)], args := [d1, d2] }
  | _ => none }
def wearOrdersRow : OpenClaim := { program := "ytobkimnajpcopaa", sum := "3121b0af4fd9892a28521071c8a51f7ef2d76f6c42c6aae772329799275e1d7c", func := "revetment/revetmentlaw40.WearOrders", spec := "wearOrders", apart := false }
def WearOrdersSaid : Prop := wearOrdersRow.holds Try.pinned (OpenSpec.ofChange wearOrdersSpec)

/-- ITS FALSE NEIGHBOUR: 'it returns false'. Refute it at one input. -/
def wearOrdersWrong : ChangeSpec := { name := "wearOrders", fn := fun _ => fun
  | [d1, d2] => { results := [.lit (.bool false)], args := [d1, d2] }
  | _ => none }
def WearOrdersWrongFalsely : Prop := wearOrdersRow.holds Try.pinned (OpenSpec.ofChange wearOrdersWrong)

/-- 'revetmentlaw40.WearEven': WHATEVER THE INPUT: true; the input reads as it did. -/
def wearEvenSpec : ChangeSpec := { name := "wearEven", fn := fun _ => fun
  | [d1, d2] => { results := [.lit (.bool true)], args := [d1, d2] }
  | _ => none }
def wearEvenRow : OpenClaim := { program := "ytobkimnajpcopaa", sum := "3121b0af4fd9892a28521071c8a51f7ef2d76f6c42c6aae772329799275e1d7c", func := "revetment/revetmentlaw40.WearEven", spec := "wearEven", apart := false }
def WearEvenSaid : Prop := wearEvenRow.holds Try.pinned (OpenSpec.ofChange wearEvenSpec)

/-- ITS FALSE NEIGHBOUR: 'it returns false'. Refute it at one input. -/
def wearEvenWrong : ChangeSpec := { name := "wearEven", fn := fun _ => fun
  | [d1, d2] => { results := [.lit (.bool false)], args := [d1, d2] }
  | _ => none }
def WearEvenWrongFalsely : Prop := wearEvenRow.holds Try.pinned (OpenSpec.ofChange wearEvenWrong)

/-- 'revetmentlaw01.PackReads': WHATEVER THE INPUT: true; the input reads as it did. -/
def packReadsSpec : ChangeSpec := { name := "packReads", fn := fun _ => fun
  | [d1, d2] => { results := [.lit (.bool true)], args := [d1, d2] }
  | _ => none }
def packReadsRow : OpenClaim := { program := "ytobkimnajpcopaa", sum := "3121b0af4fd9892a28521071c8a51f7ef2d76f6c42c6aae772329799275e1d7c", func := "revetment/revetmentlaw01.PackReads", spec := "packReads", apart := false }
def PackReadsSaid : Prop := packReadsRow.holds Try.pinned (OpenSpec.ofChange packReadsSpec)

/-- ITS FALSE NEIGHBOUR: 'it returns false'. Refute it at one input. -/
def packReadsWrong : ChangeSpec := { name := "packReads", fn := fun _ => fun
  | [d1, d2] => { results := [.lit (.bool false)], args := [d1, d2] }
  | _ => none }
def PackReadsWrongFalsely : Prop := packReadsRow.holds Try.pinned (OpenSpec.ofChange packReadsWrong)

/-- 'revetmentlaw03.XorParts': WHATEVER THE INPUT: true; the input reads as it did. -/
def xorPartsSpec : ChangeSpec := { name := "xorParts", fn := fun _ => fun
  | [d1, d2, d3] => { results := [.lit (.bool true)], args := [d1, d2, d3] }
  | _ => none }
def xorPartsRow : OpenClaim := { program := "ytobkimnajpcopaa", sum := "3121b0af4fd9892a28521071c8a51f7ef2d76f6c42c6aae772329799275e1d7c", func := "revetment/revetmentlaw03.XorParts", spec := "xorParts", unfollowed := true, recurses := true, apart := false }
def XorPartsSaid : Prop := xorPartsRow.holds Try.pinned (OpenSpec.ofChange xorPartsSpec)

/-- ITS FALSE NEIGHBOUR: 'it returns false'. Refute it at one input. -/
def xorPartsWrong : ChangeSpec := { name := "xorParts", fn := fun _ => fun
  | [d1, d2, d3] => { results := [.lit (.bool false)], args := [d1, d2, d3] }
  | _ => none }
def XorPartsWrongFalsely : Prop := xorPartsRow.holds Try.pinned (OpenSpec.ofChange xorPartsWrong)

/-- 'revetmentlaw01.PackBack': WHATEVER THE INPUT: true; the input reads as it did. -/
def packBackSpec : ChangeSpec := { name := "packBack", fn := fun _ => fun
  | [d1, d2, d3, d4] => { results := [.lit (.bool true)], args := [d1, d2, d3, d4] }
  | _ => none }
def packBackRow : OpenClaim := { program := "ytobkimnajpcopaa", sum := "3121b0af4fd9892a28521071c8a51f7ef2d76f6c42c6aae772329799275e1d7c", func := "revetment/revetmentlaw01.PackBack", spec := "packBack", apart := false }
def PackBackSaid : Prop := packBackRow.holds Try.pinned (OpenSpec.ofChange packBackSpec)

/-- ITS FALSE NEIGHBOUR: 'it returns false'. Refute it at one input. -/
def packBackWrong : ChangeSpec := { name := "packBack", fn := fun _ => fun
  | [d1, d2, d3, d4] => { results := [.lit (.bool false)], args := [d1, d2, d3, d4] }
  | _ => none }
def PackBackWrongFalsely : Prop := packBackRow.holds Try.pinned (OpenSpec.ofChange packBackWrong)

/-- 'revetmentlaw27.CmdSames': WHATEVER THE INPUT: true; the input reads as it did. -/
def cmdSamesSpec : ChangeSpec := { name := "cmdSames", fn := fun _ => fun
  | [d1, d2, d3] => { results := [.lit (.bool true)], args := [d1, d2, d3] }
  | _ => none }
def cmdSamesRow : OpenClaim := { program := "ytobkimnajpcopaa", sum := "3121b0af4fd9892a28521071c8a51f7ef2d76f6c42c6aae772329799275e1d7c", func := "revetment/revetmentlaw27.CmdSames", spec := "cmdSames", apart := false }
def CmdSamesSaid : Prop := cmdSamesRow.holds Try.pinned (OpenSpec.ofChange cmdSamesSpec)

/-- ITS FALSE NEIGHBOUR: 'it returns false'. Refute it at one input. -/
def cmdSamesWrong : ChangeSpec := { name := "cmdSames", fn := fun _ => fun
  | [d1, d2, d3] => { results := [.lit (.bool false)], args := [d1, d2, d3] }
  | _ => none }
def CmdSamesWrongFalsely : Prop := cmdSamesRow.holds Try.pinned (OpenSpec.ofChange cmdSamesWrong)

/-- 'revetmentlaw10.RecSames': WHATEVER THE INPUT: true; the input reads as it did. -/
def recSamesSpec : ChangeSpec := { name := "recSames", fn := fun _ => fun
  | [d1, d2] => { results := [.lit (.bool true)], args := [d1, d2] }
  | _ => none }
def recSamesRow : OpenClaim := { program := "ytobkimnajpcopaa", sum := "3121b0af4fd9892a28521071c8a51f7ef2d76f6c42c6aae772329799275e1d7c", func := "revetment/revetmentlaw10.RecSames", spec := "recSames", apart := false }
def RecSamesSaid : Prop := recSamesRow.holds Try.pinned (OpenSpec.ofChange recSamesSpec)

/-- ITS FALSE NEIGHBOUR: 'it returns false'. Refute it at one input. -/
def recSamesWrong : ChangeSpec := { name := "recSames", fn := fun _ => fun
  | [d1, d2] => { results := [.lit (.bool false)], args := [d1, d2] }
  | _ => none }
def RecSamesWrongFalsely : Prop := recSamesRow.holds Try.pinned (OpenSpec.ofChange recSamesWrong)

/-- 'revetmentlaw34.QueueMerges': WHATEVER THE INPUT: true; the input reads as it did. -/
def queueMergesSpec : ChangeSpec := { name := "queueMerges", fn := fun _ => fun
  | [d1, d2] => { results := [.lit (.bool true)], args := [d1, d2] }
  | _ => none }
def queueMergesRow : OpenClaim := { program := "ytobkimnajpcopaa", sum := "3121b0af4fd9892a28521071c8a51f7ef2d76f6c42c6aae772329799275e1d7c", func := "revetment/revetmentlaw34.QueueMerges", spec := "queueMerges", unfollowed := true, recurses := true, apart := false }
def QueueMergesSaid : Prop := queueMergesRow.holds Try.pinned (OpenSpec.ofChange queueMergesSpec)

/-- ITS FALSE NEIGHBOUR: 'it returns false'. Refute it at one input. -/
def queueMergesWrong : ChangeSpec := { name := "queueMerges", fn := fun _ => fun
  | [d1, d2] => { results := [.lit (.bool false)], args := [d1, d2] }
  | _ => none }
def QueueMergesWrongFalsely : Prop := queueMergesRow.holds Try.pinned (OpenSpec.ofChange queueMergesWrong)

/- THE SECOND FORM. 'bulk': how many values and letters a reading holds, each counted each time it is reached (what is shared counts as often as it is met; a slice's spare places count too). A statement '..UptoSaid' is the law's where the arguments, and the package variables that the reading takes, are together of bulk at most 1048576: NARROWER than '..Said'. Prove '..Said' where nothing that the law and all that it calls make is longer than what came in: it says more and counts as full. Else prove '..UptoSaid'. A law counts once. -/
mutual
def uptoBulk {H : Type} : DataW H → Nat
  | .lit (.string bytes) => bytes.length + 1
  | .lit _ => 1
  | .nil => 1
  | .ptr d => uptoBulk d + 1
  | .slice elems spare => uptoBulkAll elems + uptoBulkAll spare + 1
  | .agg parts => uptoBulkAll parts + 1
  | .iface _ d => uptoBulk d + 1
  | .map entries => uptoBulkEntries entries + 1
  | .held _ => 1
def uptoBulkAll {H : Type} : List (DataW H) → Nat
  | [] => 0
  | d :: r => uptoBulk d + uptoBulkAll r
def uptoBulkEntries {H : Type} : List (Lit × DataW H) → Nat
  | [] => 0
  | x :: r => uptoBulkEntry x + uptoBulkEntries r
def uptoBulkEntry {H : Type} : Lit × DataW H → Nat
  | (.string bytes, d) => bytes.length + uptoBulk d + 1
  | (_, d) => uptoBulk d + 1
 end
def uptoSmall : (H : Type) → List (DataW H) → Bool := fun _ ds => decide (uptoBulkAll ds ≤ 1048576)
def OpenSpec.upto (s : _root_.Go.ChangeSpec) : _root_.Go.OpenSpec := { _root_.Go.OpenSpec.ofChange s with cond := some uptoSmall }

/-- 'revetmentlaw02.CrcParts', WHERE WHAT IT READS IS OF BULK AT MOST 1048576: true; the input reads as it did. -/
def crcPartsUptoRow : OpenClaim := { program := "ytobkimnajpcopaa", sum := "3121b0af4fd9892a28521071c8a51f7ef2d76f6c42c6aae772329799275e1d7c", func := "revetment/revetmentlaw02.CrcParts", spec := "crcParts", apart := false, narrowed := true }
def CrcPartsUptoSaid : Prop := crcPartsUptoRow.holds Try.pinned (OpenSpec.upto crcPartsSpec)

/-- 'revetmentlaw03.XorLacks', WHERE WHAT IT READS IS OF BULK AT MOST 1048576: true; the input reads as it did. -/
def xorLacksUptoRow : OpenClaim := { program := "ytobkimnajpcopaa", sum := "3121b0af4fd9892a28521071c8a51f7ef2d76f6c42c6aae772329799275e1d7c", func := "revetment/revetmentlaw03.XorLacks", spec := "xorLacks", apart := false, narrowed := true }
def XorLacksUptoSaid : Prop := xorLacksUptoRow.holds Try.pinned (OpenSpec.upto xorLacksSpec)

/-- 'revetmentlaw40.WearOrders', WHERE WHAT IT READS IS OF BULK AT MOST 1048576: true; the input reads as it did. -/
def wearOrdersUptoRow : OpenClaim := { program := "ytobkimnajpcopaa", sum := "3121b0af4fd9892a28521071c8a51f7ef2d76f6c42c6aae772329799275e1d7c", func := "revetment/revetmentlaw40.WearOrders", spec := "wearOrders", apart := false, narrowed := true }
def WearOrdersUptoSaid : Prop := wearOrdersUptoRow.holds Try.pinned (OpenSpec.upto wearOrdersSpec)

/-- 'revetmentlaw40.WearEven', WHERE WHAT IT READS IS OF BULK AT MOST 1048576: true; the input reads as it did. -/
def wearEvenUptoRow : OpenClaim := { program := "ytobkimnajpcopaa", sum := "3121b0af4fd9892a28521071c8a51f7ef2d76f6c42c6aae772329799275e1d7c", func := "revetment/revetmentlaw40.WearEven", spec := "wearEven", apart := false, narrowed := true }
def WearEvenUptoSaid : Prop := wearEvenUptoRow.holds Try.pinned (OpenSpec.upto wearEvenSpec)

/-- 'revetmentlaw01.PackReads', WHERE WHAT IT READS IS OF BULK AT MOST 1048576: true; the input reads as it did. -/
def packReadsUptoRow : OpenClaim := { program := "ytobkimnajpcopaa", sum := "3121b0af4fd9892a28521071c8a51f7ef2d76f6c42c6aae772329799275e1d7c", func := "revetment/revetmentlaw01.PackReads", spec := "packReads", apart := false, narrowed := true }
def PackReadsUptoSaid : Prop := packReadsUptoRow.holds Try.pinned (OpenSpec.upto packReadsSpec)

/-- 'revetmentlaw03.XorParts', WHERE WHAT IT READS IS OF BULK AT MOST 1048576: true; the input reads as it did. -/
def xorPartsUptoRow : OpenClaim := { program := "ytobkimnajpcopaa", sum := "3121b0af4fd9892a28521071c8a51f7ef2d76f6c42c6aae772329799275e1d7c", func := "revetment/revetmentlaw03.XorParts", spec := "xorParts", unfollowed := true, recurses := true, apart := false, narrowed := true }
def XorPartsUptoSaid : Prop := xorPartsUptoRow.holds Try.pinned (OpenSpec.upto xorPartsSpec)

/-- 'revetmentlaw01.PackBack', WHERE WHAT IT READS IS OF BULK AT MOST 1048576: true; the input reads as it did. -/
def packBackUptoRow : OpenClaim := { program := "ytobkimnajpcopaa", sum := "3121b0af4fd9892a28521071c8a51f7ef2d76f6c42c6aae772329799275e1d7c", func := "revetment/revetmentlaw01.PackBack", spec := "packBack", apart := false, narrowed := true }
def PackBackUptoSaid : Prop := packBackUptoRow.holds Try.pinned (OpenSpec.upto packBackSpec)

/-- 'revetmentlaw27.CmdSames', WHERE WHAT IT READS IS OF BULK AT MOST 1048576: true; the input reads as it did. -/
def cmdSamesUptoRow : OpenClaim := { program := "ytobkimnajpcopaa", sum := "3121b0af4fd9892a28521071c8a51f7ef2d76f6c42c6aae772329799275e1d7c", func := "revetment/revetmentlaw27.CmdSames", spec := "cmdSames", apart := false, narrowed := true }
def CmdSamesUptoSaid : Prop := cmdSamesUptoRow.holds Try.pinned (OpenSpec.upto cmdSamesSpec)

/-- 'revetmentlaw10.RecSames', WHERE WHAT IT READS IS OF BULK AT MOST 1048576: true; the input reads as it did. -/
def recSamesUptoRow : OpenClaim := { program := "ytobkimnajpcopaa", sum := "3121b0af4fd9892a28521071c8a51f7ef2d76f6c42c6aae772329799275e1d7c", func := "revetment/revetmentlaw10.RecSames", spec := "recSames", apart := false, narrowed := true }
def RecSamesUptoSaid : Prop := recSamesUptoRow.holds Try.pinned (OpenSpec.upto recSamesSpec)

/-- 'revetmentlaw34.QueueMerges', WHERE WHAT IT READS IS OF BULK AT MOST 1048576: true; the input reads as it did. -/
def queueMergesUptoRow : OpenClaim := { program := "ytobkimnajpcopaa", sum := "3121b0af4fd9892a28521071c8a51f7ef2d76f6c42c6aae772329799275e1d7c", func := "revetment/revetmentlaw34.QueueMerges", spec := "queueMerges", unfollowed := true, recurses := true, apart := false, narrowed := true }
def QueueMergesUptoSaid : Prop := queueMergesUptoRow.holds Try.pinned (OpenSpec.upto queueMergesSpec)

end Rows
end Go.Proofs.Ytobkimnajpcopaa
