/-
  No cell of these rows narrows 'for every input' (looked for: loops, veiled, ifaces, maps, wideKeys, modest, calm, conditions, laid).
  DERIVED. THE GIVEN ROWS OF THIS SEAT. 14 by the template 'for every input the law returns true; each argument reads behind the call as it read before'; 0 by the template 'total and deterministic' (their statements: YtmegpanmiagheaaTotals.lean).
  GIVEN WITH THE SEED: the statements are not yours to turn. If you find one false, say at which input.
  Laid BY PROGRAM, IN A SANDBOX (cutbox-rows.mjs): the forced cells as the released guide's own fill.sh prints them over the translation 0b035dd7d8dd94c4… (all of the seat's roots in one cut). By AI agents, Wed Nov 11 2026. No macro, syntax, notation, axiom, sorry.
-/
import Derived.Test.YtmegpanmiagheaaChecked
import GoSem.Claim
import GoSem.ClaimJoined
import GoSem.ClaimMapViews
import Derived.JoinedTies
import Derived.KernelRfl
namespace Go.Proofs.Ytmegpanmiagheaa
/- THE CELL 'sum', in the pinned program and in every row, IS THE sha256 OF THE DUMP (.gsa) THAT YtmegpanmiagheaaProg.lean LOADS. Nothing in Lean hashes anything: it is a label: what it is worth is what the hold of that sum in a sandbox is worth. -/
noncomputable def Try.pinned : Pinned := { name := "ytmegpanmiagheaa", sum := "0b035dd7d8dd94c47870f110cb2cf5c41e43f59f3407fc8c017d05fba3495624", checked := Try.checked }
namespace Rows
def none {H : Type} : Left H := { results := [], args := [] }

/-- 'revetmentlaw01.PackReads': WHATEVER THE INPUT: true; the input reads as it did. -/
def packReadsSpec : ChangeSpec := { name := "packReads", fn := fun _ => fun
  | [d1, d2] => { results := [.lit (.bool true)], args := [d1, d2] }
  | _ => none }
def packReadsRow : OpenClaim := { program := "ytmegpanmiagheaa", sum := "0b035dd7d8dd94c47870f110cb2cf5c41e43f59f3407fc8c017d05fba3495624", func := "revetment/revetmentlaw01.PackReads", spec := "packReads", apart := false }
def PackReadsSaid : Prop := packReadsRow.holds Try.pinned (OpenSpec.ofChange packReadsSpec)

/-- ITS FALSE NEIGHBOUR: 'it returns false'. Refute it at one input. -/
def packReadsWrong : ChangeSpec := { name := "packReads", fn := fun _ => fun
  | [d1, d2] => { results := [.lit (.bool false)], args := [d1, d2] }
  | _ => none }
def PackReadsWrongFalsely : Prop := packReadsRow.holds Try.pinned (OpenSpec.ofChange packReadsWrong)

/-- 'revetmentlaw01.PackBack': WHATEVER THE INPUT: true; the input reads as it did. -/
def packBackSpec : ChangeSpec := { name := "packBack", fn := fun _ => fun
  | [d1, d2, d3, d4] => { results := [.lit (.bool true)], args := [d1, d2, d3, d4] }
  | _ => none }
def packBackRow : OpenClaim := { program := "ytmegpanmiagheaa", sum := "0b035dd7d8dd94c47870f110cb2cf5c41e43f59f3407fc8c017d05fba3495624", func := "revetment/revetmentlaw01.PackBack", spec := "packBack", apart := false }
def PackBackSaid : Prop := packBackRow.holds Try.pinned (OpenSpec.ofChange packBackSpec)

/-- ITS FALSE NEIGHBOUR: 'it returns false'. Refute it at one input. -/
def packBackWrong : ChangeSpec := { name := "packBack", fn := fun _ => fun
  | [d1, d2, d3, d4] => { results := [.lit (.bool false)], args := [d1, d2, d3, d4] }
  | _ => none }
def PackBackWrongFalsely : Prop := packBackRow.holds Try.pinned (OpenSpec.ofChange packBackWrong)

/-- 'revetmentlaw40.WearOrders': WHATEVER THE INPUT: true; the input reads as it did. -/
def wearOrdersSpec : ChangeSpec := { name := "wearOrders", fn := fun _ => fun
  | [d1, d2] => { results := [.lit (.bool true)], args := [d1, d2] }
  | _ => none }
def wearOrdersRow : OpenClaim := { program := "ytmegpanmiagheaa", sum := "0b035dd7d8dd94c47870f110cb2cf5c41e43f59f3407fc8c017d05fba3495624", func := "revetment/revetmentlaw40.WearOrders", spec := "wearOrders", apart := false }
def WearOrdersSaid : Prop := wearOrdersRow.holds Try.pinned (OpenSpec.ofChange wearOrdersSpec)

/-- ITS FALSE NEIGHBOUR: 'it returns false'. Refute it at one input. -/
def wearOrdersWrong : ChangeSpec := { name := "wearOrders", fn := fun _ => fun
  | [d1, d2] => { results := [.lit (.bool false)], args := [d1, d2] }
  | _ => none }
def WearOrdersWrongFalsely : Prop := wearOrdersRow.holds Try.pinned (OpenSpec.ofChange wearOrdersWrong)

/-- 'revetmentlaw03.XorParts': WHATEVER THE INPUT: true; the input reads as it did. -/
def xorPartsSpec : ChangeSpec := { name := "xorParts", fn := fun _ => fun
  | [d1, d2, d3] => { results := [.lit (.bool true)], args := [d1, d2, d3] }
  | _ => none }
def xorPartsRow : OpenClaim := { program := "ytmegpanmiagheaa", sum := "0b035dd7d8dd94c47870f110cb2cf5c41e43f59f3407fc8c017d05fba3495624", func := "revetment/revetmentlaw03.XorParts", spec := "xorParts", unfollowed := true, recurses := true, apart := false }
def XorPartsSaid : Prop := xorPartsRow.holds Try.pinned (OpenSpec.ofChange xorPartsSpec)

/-- ITS FALSE NEIGHBOUR: 'it returns false'. Refute it at one input. -/
def xorPartsWrong : ChangeSpec := { name := "xorParts", fn := fun _ => fun
  | [d1, d2, d3] => { results := [.lit (.bool false)], args := [d1, d2, d3] }
  | _ => none }
def XorPartsWrongFalsely : Prop := xorPartsRow.holds Try.pinned (OpenSpec.ofChange xorPartsWrong)

/-- 'revetmentlaw27.CmdSames': WHATEVER THE INPUT: true; the input reads as it did. -/
def cmdSamesSpec : ChangeSpec := { name := "cmdSames", fn := fun _ => fun
  | [d1, d2, d3] => { results := [.lit (.bool true)], args := [d1, d2, d3] }
  | _ => none }
def cmdSamesRow : OpenClaim := { program := "ytmegpanmiagheaa", sum := "0b035dd7d8dd94c47870f110cb2cf5c41e43f59f3407fc8c017d05fba3495624", func := "revetment/revetmentlaw27.CmdSames", spec := "cmdSames", apart := false }
def CmdSamesSaid : Prop := cmdSamesRow.holds Try.pinned (OpenSpec.ofChange cmdSamesSpec)

/-- ITS FALSE NEIGHBOUR: 'it returns false'. Refute it at one input. -/
def cmdSamesWrong : ChangeSpec := { name := "cmdSames", fn := fun _ => fun
  | [d1, d2, d3] => { results := [.lit (.bool false)], args := [d1, d2, d3] }
  | _ => none }
def CmdSamesWrongFalsely : Prop := cmdSamesRow.holds Try.pinned (OpenSpec.ofChange cmdSamesWrong)

/-- 'revetmentlaw10.RecSames': WHATEVER THE INPUT: true; the input reads as it did. -/
def recSamesSpec : ChangeSpec := { name := "recSames", fn := fun _ => fun
  | [d1, d2] => { results := [.lit (.bool true)], args := [d1, d2] }
  | _ => none }
def recSamesRow : OpenClaim := { program := "ytmegpanmiagheaa", sum := "0b035dd7d8dd94c47870f110cb2cf5c41e43f59f3407fc8c017d05fba3495624", func := "revetment/revetmentlaw10.RecSames", spec := "recSames", apart := false }
def RecSamesSaid : Prop := recSamesRow.holds Try.pinned (OpenSpec.ofChange recSamesSpec)

/-- ITS FALSE NEIGHBOUR: 'it returns false'. Refute it at one input. -/
def recSamesWrong : ChangeSpec := { name := "recSames", fn := fun _ => fun
  | [d1, d2] => { results := [.lit (.bool false)], args := [d1, d2] }
  | _ => none }
def RecSamesWrongFalsely : Prop := recSamesRow.holds Try.pinned (OpenSpec.ofChange recSamesWrong)

/-- 'revetmentlaw34.QueueMerges': WHATEVER THE INPUT: true; the input reads as it did. -/
def queueMergesSpec : ChangeSpec := { name := "queueMerges", fn := fun _ => fun
  | [d1, d2] => { results := [.lit (.bool true)], args := [d1, d2] }
  | _ => none }
def queueMergesRow : OpenClaim := { program := "ytmegpanmiagheaa", sum := "0b035dd7d8dd94c47870f110cb2cf5c41e43f59f3407fc8c017d05fba3495624", func := "revetment/revetmentlaw34.QueueMerges", spec := "queueMerges", unfollowed := true, recurses := true, apart := false }
def QueueMergesSaid : Prop := queueMergesRow.holds Try.pinned (OpenSpec.ofChange queueMergesSpec)

/-- ITS FALSE NEIGHBOUR: 'it returns false'. Refute it at one input. -/
def queueMergesWrong : ChangeSpec := { name := "queueMerges", fn := fun _ => fun
  | [d1, d2] => { results := [.lit (.bool false)], args := [d1, d2] }
  | _ => none }
def QueueMergesWrongFalsely : Prop := queueMergesRow.holds Try.pinned (OpenSpec.ofChange queueMergesWrong)

/-- 'revetmentlaw34.QueueSame': WHATEVER THE INPUT: true; the input reads as it did. -/
def queueSameSpec : ChangeSpec := { name := "queueSame", fn := fun _ => fun
  | [d1, d2] => { results := [.lit (.bool true)], args := [d1, d2] }
  | _ => none }
def queueSameRow : OpenClaim := { program := "ytmegpanmiagheaa", sum := "0b035dd7d8dd94c47870f110cb2cf5c41e43f59f3407fc8c017d05fba3495624", func := "revetment/revetmentlaw34.QueueSame", spec := "queueSame", unfollowed := true, recurses := true, apart := false }
def QueueSameSaid : Prop := queueSameRow.holds Try.pinned (OpenSpec.ofChange queueSameSpec)

/-- ITS FALSE NEIGHBOUR: 'it returns false'. Refute it at one input. -/
def queueSameWrong : ChangeSpec := { name := "queueSame", fn := fun _ => fun
  | [d1, d2] => { results := [.lit (.bool false)], args := [d1, d2] }
  | _ => none }
def QueueSameWrongFalsely : Prop := queueSameRow.holds Try.pinned (OpenSpec.ofChange queueSameWrong)

/-- 'revetmentlaw34.QueuePlays': WHATEVER THE INPUT: true; the input reads as it did. -/
def queuePlaysSpec : ChangeSpec := { name := "queuePlays", fn := fun _ => fun
  | [d1, d2] => { results := [.lit (.bool true)], args := [d1, d2] }
  | _ => none }
def queuePlaysRow : OpenClaim := { program := "ytmegpanmiagheaa", sum := "0b035dd7d8dd94c47870f110cb2cf5c41e43f59f3407fc8c017d05fba3495624", func := "revetment/revetmentlaw34.QueuePlays", spec := "queuePlays", unfollowed := true, recurses := true, apart := false }
def QueuePlaysSaid : Prop := queuePlaysRow.holds Try.pinned (OpenSpec.ofChange queuePlaysSpec)

/-- ITS FALSE NEIGHBOUR: 'it returns false'. Refute it at one input. -/
def queuePlaysWrong : ChangeSpec := { name := "queuePlays", fn := fun _ => fun
  | [d1, d2] => { results := [.lit (.bool false)], args := [d1, d2] }
  | _ => none }
def QueuePlaysWrongFalsely : Prop := queuePlaysRow.holds Try.pinned (OpenSpec.ofChange queuePlaysWrong)

/-- 'revetmentlaw27.CmdPuts': WHATEVER THE INPUT: true; the input reads as it did. -/
def cmdPutsSpec : ChangeSpec := { name := "cmdPuts", fn := fun _ => fun
  | [d1, d2] => { results := [.lit (.bool true)], args := [d1, d2] }
  | _ => none }
def cmdPutsRow : OpenClaim := { program := "ytmegpanmiagheaa", sum := "0b035dd7d8dd94c47870f110cb2cf5c41e43f59f3407fc8c017d05fba3495624", func := "revetment/revetmentlaw27.CmdPuts", spec := "cmdPuts", apart := false }
def CmdPutsSaid : Prop := cmdPutsRow.holds Try.pinned (OpenSpec.ofChange cmdPutsSpec)

/-- ITS FALSE NEIGHBOUR: 'it returns false'. Refute it at one input. -/
def cmdPutsWrong : ChangeSpec := { name := "cmdPuts", fn := fun _ => fun
  | [d1, d2] => { results := [.lit (.bool false)], args := [d1, d2] }
  | _ => none }
def CmdPutsWrongFalsely : Prop := cmdPutsRow.holds Try.pinned (OpenSpec.ofChange cmdPutsWrong)

/-- 'revetmentlaw27.CmdGets': WHATEVER THE INPUT: true; the input reads as it did. -/
def cmdGetsSpec : ChangeSpec := { name := "cmdGets", fn := fun _ => fun
  | [d] => { results := [.lit (.bool true)], args := [d] }
  | _ => none }
def cmdGetsRow : OpenClaim := { program := "ytmegpanmiagheaa", sum := "0b035dd7d8dd94c47870f110cb2cf5c41e43f59f3407fc8c017d05fba3495624", func := "revetment/revetmentlaw27.CmdGets", spec := "cmdGets", apart := false }
def CmdGetsSaid : Prop := cmdGetsRow.holds Try.pinned (OpenSpec.ofChange cmdGetsSpec)

/-- ITS FALSE NEIGHBOUR: 'it returns false'. Refute it at one input. -/
def cmdGetsWrong : ChangeSpec := { name := "cmdGets", fn := fun _ => fun
  | [d] => { results := [.lit (.bool false)], args := [d] }
  | _ => none }
def CmdGetsWrongFalsely : Prop := cmdGetsRow.holds Try.pinned (OpenSpec.ofChange cmdGetsWrong)

/-- 'revetmentlaw07.ConfGets': WHATEVER THE INPUT: true; the input reads as it did. -/
def confGetsSpec : ChangeSpec := { name := "confGets", fn := fun _ => fun
  | [d] => { results := [.lit (.bool true)], args := [d] }
  | _ => none }
def confGetsRow : OpenClaim := { program := "ytmegpanmiagheaa", sum := "0b035dd7d8dd94c47870f110cb2cf5c41e43f59f3407fc8c017d05fba3495624", func := "revetment/revetmentlaw07.ConfGets", spec := "confGets", unfollowed := true, recurses := true, apart := false }
def ConfGetsSaid : Prop := confGetsRow.holds Try.pinned (OpenSpec.ofChange confGetsSpec)

/-- ITS FALSE NEIGHBOUR: 'it returns false'. Refute it at one input. -/
def confGetsWrong : ChangeSpec := { name := "confGets", fn := fun _ => fun
  | [d] => { results := [.lit (.bool false)], args := [d] }
  | _ => none }
def ConfGetsWrongFalsely : Prop := confGetsRow.holds Try.pinned (OpenSpec.ofChange confGetsWrong)

/-- 'revetmentlaw07.ConfPuts': WHATEVER THE INPUT: true; the input reads as it did. -/
def confPutsSpec : ChangeSpec := { name := "confPuts", fn := fun _ => fun
  | [d] => { results := [.lit (.bool true)], args := [d] }
  | _ => none }
def confPutsRow : OpenClaim := { program := "ytmegpanmiagheaa", sum := "0b035dd7d8dd94c47870f110cb2cf5c41e43f59f3407fc8c017d05fba3495624", func := "revetment/revetmentlaw07.ConfPuts", spec := "confPuts", unfollowed := true, recurses := true, apart := false }
def ConfPutsSaid : Prop := confPutsRow.holds Try.pinned (OpenSpec.ofChange confPutsSpec)

/-- ITS FALSE NEIGHBOUR: 'it returns false'. Refute it at one input. -/
def confPutsWrong : ChangeSpec := { name := "confPuts", fn := fun _ => fun
  | [d] => { results := [.lit (.bool false)], args := [d] }
  | _ => none }
def ConfPutsWrongFalsely : Prop := confPutsRow.holds Try.pinned (OpenSpec.ofChange confPutsWrong)

/-- 'revetmentlaw10.RecPuts': WHATEVER THE INPUT: true; the input reads as it did. -/
def recPutsSpec : ChangeSpec := { name := "recPuts", fn := fun _ => fun
  | [d1, d2, d3] => { results := [.lit (.bool true)], args := [d1, d2, d3] }
  | _ => none }
def recPutsRow : OpenClaim := { program := "ytmegpanmiagheaa", sum := "0b035dd7d8dd94c47870f110cb2cf5c41e43f59f3407fc8c017d05fba3495624", func := "revetment/revetmentlaw10.RecPuts", spec := "recPuts", unfollowed := true, recurses := true, apart := false }
def RecPutsSaid : Prop := recPutsRow.holds Try.pinned (OpenSpec.ofChange recPutsSpec)

/-- ITS FALSE NEIGHBOUR: 'it returns false'. Refute it at one input. -/
def recPutsWrong : ChangeSpec := { name := "recPuts", fn := fun _ => fun
  | [d1, d2, d3] => { results := [.lit (.bool false)], args := [d1, d2, d3] }
  | _ => none }
def RecPutsWrongFalsely : Prop := recPutsRow.holds Try.pinned (OpenSpec.ofChange recPutsWrong)

/- THE SECOND FORM. 'bulk': how many values and letters a reading holds, each counted each time it is reached (what is shared counts as often as it is met; a slice's spare places count too). A statement '..UptoSaid' is the law's where the arguments, and the package variables that the reading takes, are together of bulk at most 1048576: NARROWER than '..Said'. Prove '..Said' where nothing that the law and all that it calls make is longer than what came in: it says more and counts as full. Else prove '..UptoSaid'. A law counts once. -/
mutual
def uptoBulk {H : Type} : DataW H → Nat
  | .lit (.string bytes) => bytes.length + 1
  | .lit _ => 1
  | .nil => 1
  | .ptr d => uptoBulk d + 1
  | .slice elems spare => uptoBulkAll elems + uptoBulkAll spare + 1
  | .agg parts => uptoBulkAll parts + 1
  | .iface _ d => uptoBulk d + 1
  | .map entries => uptoBulkEntries entries + 1
  | .held _ => 1
def uptoBulkAll {H : Type} : List (DataW H) → Nat
  | [] => 0
  | d :: r => uptoBulk d + uptoBulkAll r
def uptoBulkEntries {H : Type} : List (Lit × DataW H) → Nat
  | [] => 0
  | x :: r => uptoBulkEntry x + uptoBulkEntries r
def uptoBulkEntry {H : Type} : Lit × DataW H → Nat
  | (.string bytes, d) => bytes.length + uptoBulk d + 1
  | (_, d) => uptoBulk d + 1
 end
def uptoSmall : (H : Type) → List (DataW H) → Bool := fun _ ds => decide (uptoBulkAll ds ≤ 1048576)
def OpenSpec.upto (s : _root_.Go.ChangeSpec) : _root_.Go.OpenSpec := { _root_.Go.OpenSpec.ofChange s with cond := some uptoSmall }

/-- 'revetmentlaw01.PackReads', WHERE WHAT IT READS IS OF BULK AT MOST 1048576: true; the input reads as it did. -/
def packReadsUptoRow : OpenClaim := { program := "ytmegpanmiagheaa", sum := "0b035dd7d8dd94c47870f110cb2cf5c41e43f59f3407fc8c017d05fba3495624", func := "revetment/revetmentlaw01.PackReads", spec := "packReads", apart := false, narrowed := true }
def PackReadsUptoSaid : Prop := packReadsUptoRow.holds Try.pinned (OpenSpec.upto packReadsSpec)

/-- 'revetmentlaw01.PackBack', WHERE WHAT IT READS IS OF BULK AT MOST 1048576: true; the input reads as it did. -/
def packBackUptoRow : OpenClaim := { program := "ytmegpanmiagheaa", sum := "0b035dd7d8dd94c47870f110cb2cf5c41e43f59f3407fc8c017d05fba3495624", func := "revetment/revetmentlaw01.PackBack", spec := "packBack", apart := false, narrowed := true }
def PackBackUptoSaid : Prop := packBackUptoRow.holds Try.pinned (OpenSpec.upto packBackSpec)

/-- 'revetmentlaw40.WearOrders', WHERE WHAT IT READS IS OF BULK AT MOST 1048576: true; the input reads as it did. -/
def wearOrdersUptoRow : OpenClaim := { program := "ytmegpanmiagheaa", sum := "0b035dd7d8dd94c47870f110cb2cf5c41e43f59f3407fc8c017d05fba3495624", func := "revetment/revetmentlaw40.WearOrders", spec := "wearOrders", apart := false, narrowed := true }
def WearOrdersUptoSaid : Prop := wearOrdersUptoRow.holds Try.pinned (OpenSpec.upto wearOrdersSpec)

/-- 'revetmentlaw03.XorParts', WHERE WHAT IT READS IS OF BULK AT MOST 1048576: true; the input reads as it did. -/
def xorPartsUptoRow : OpenClaim := { program := "ytmegpanmiagheaa", sum := "0b035dd7d8dd94c47870f110cb2cf5c41e43f59f3407fc8c017d05fba3495624", func := "revetment/revetmentlaw03.XorParts", spec := "xorParts", unfollowed := true, recurses := true, apart := false, narrowed := true }
def XorPartsUptoSaid : Prop := xorPartsUptoRow.holds Try.pinned (OpenSpec.upto xorPartsSpec)

/-- 'revetmentlaw27.CmdSames', WHERE WHAT IT READS IS OF BULK AT MOST 1048576: true; the input reads as it did. -/
def cmdSamesUptoRow : OpenClaim := { program := "ytmegpanmiagheaa", sum := "0b035dd7d8dd94c47870f110cb2cf5c41e43f59f3407fc8c017d05fba3495624", func := "revetment/revetmentlaw27.CmdSames", spec := "cmdSames", apart := false, narrowed := true }
def CmdSamesUptoSaid : Prop := cmdSamesUptoRow.holds Try.pinned (OpenSpec.upto cmdSamesSpec)

/-- 'revetmentlaw10.RecSames', WHERE WHAT IT READS IS OF BULK AT MOST 1048576: true; the input reads as it did. -/
def recSamesUptoRow : OpenClaim := { program := "ytmegpanmiagheaa", sum := "0b035dd7d8dd94c47870f110cb2cf5c41e43f59f3407fc8c017d05fba3495624", func := "revetment/revetmentlaw10.RecSames", spec := "recSames", apart := false, narrowed := true }
def RecSamesUptoSaid : Prop := recSamesUptoRow.holds Try.pinned (OpenSpec.upto recSamesSpec)

/-- 'revetmentlaw34.QueueMerges', WHERE WHAT IT READS IS OF BULK AT MOST 1048576: true; the input reads as it did. -/
def queueMergesUptoRow : OpenClaim := { program := "ytmegpanmiagheaa", sum := "0b035dd7d8dd94c47870f110cb2cf5c41e43f59f3407fc8c017d05fba3495624", func := "revetment/revetmentlaw34.QueueMerges", spec := "queueMerges", unfollowed := true, recurses := true, apart := false, narrowed := true }
def QueueMergesUptoSaid : Prop := queueMergesUptoRow.holds Try.pinned (OpenSpec.upto queueMergesSpec)

/-- 'revetmentlaw34.QueueSame', WHERE WHAT IT READS IS OF BULK AT MOST 1048576: true; the input reads as it did. -/
def queueSameUptoRow : OpenClaim := { program := "ytmegpanmiagheaa", sum := "0b035dd7d8dd94c47870f110cb2cf5c41e43f59f3407fc8c017d05fba3495624", func := "revetment/revetmentlaw34.QueueSame", spec := "queueSame", unfollowed := true, recurses := true, apart := false, narrowed := true }
def QueueSameUptoSaid : Prop := queueSameUptoRow.holds Try.pinned (OpenSpec.upto queueSameSpec)

/-- 'revetmentlaw34.QueuePlays', WHERE WHAT IT READS IS OF BULK AT MOST 1048576: true; the input reads as it did. -/
def queuePlaysUptoRow : OpenClaim := { program := "ytmegpanmiagheaa", sum := "0b035dd7d8dd94c47870f110cb2cf5c41e43f59f3407fc8c017d05fba3495624", func := "revetment/revetmentlaw34.QueuePlays", spec := "queuePlays", unfollowed := true, recurses := true, apart := false, narrowed := true }
def QueuePlaysUptoSaid : Prop := queuePlaysUptoRow.holds Try.pinned (OpenSpec.upto queuePlaysSpec)

/-- 'revetmentlaw27.CmdPuts', WHERE WHAT IT READS IS OF BULK AT MOST 1048576: true; the input reads as it did. -/
def cmdPutsUptoRow : OpenClaim := { program := "ytmegpanmiagheaa", sum := "0b035dd7d8dd94c47870f110cb2cf5c41e43f59f3407fc8c017d05fba3495624", func := "revetment/revetmentlaw27.CmdPuts", spec := "cmdPuts", apart := false, narrowed := true }
def CmdPutsUptoSaid : Prop := cmdPutsUptoRow.holds Try.pinned (OpenSpec.upto cmdPutsSpec)

/-- 'revetmentlaw27.CmdGets', WHERE WHAT IT READS IS OF BULK AT MOST 1048576: true; the input reads as it did. -/
def cmdGetsUptoRow : OpenClaim := { program := "ytmegpanmiagheaa", sum := "0b035dd7d8dd94c47870f110cb2cf5c41e43f59f3407fc8c017d05fba3495624", func := "revetment/revetmentlaw27.CmdGets", spec := "cmdGets", apart := false, narrowed := true }
def CmdGetsUptoSaid : Prop := cmdGetsUptoRow.holds Try.pinned (OpenSpec.upto cmdGetsSpec)

/-- 'revetmentlaw07.ConfGets', WHERE WHAT IT READS IS OF BULK AT MOST 1048576: true; the input reads as it did. -/
def confGetsUptoRow : OpenClaim := { program := "ytmegpanmiagheaa", sum := "0b035dd7d8dd94c47870f110cb2cf5c41e43f59f3407fc8c017d05fba3495624", func := "revetment/revetmentlaw07.ConfGets", spec := "confGets", unfollowed := true, recurses := true, apart := false, narrowed := true }
def ConfGetsUptoSaid : Prop := confGetsUptoRow.holds Try.pinned (OpenSpec.upto confGetsSpec)

/-- 'revetmentlaw07.ConfPuts', WHERE WHAT IT READS IS OF BULK AT MOST 1048576: true; the input reads as it did. -/
def confPutsUptoRow : OpenClaim := { program := "ytmegpanmiagheaa", sum := "0b035dd7d8dd94c47870f110cb2cf5c41e43f59f3407fc8c017d05fba3495624", func := "revetment/revetmentlaw07.ConfPuts", spec := "confPuts", unfollowed := true, recurses := true, apart := false, narrowed := true }
def ConfPutsUptoSaid : Prop := confPutsUptoRow.holds Try.pinned (OpenSpec.upto confPutsSpec)

/-- 'revetmentlaw10.RecPuts', WHERE WHAT IT READS IS OF BULK AT MOST 1048576: true; the input reads as it did. -/
def recPutsUptoRow : OpenClaim := { program := "ytmegpanmiagheaa", sum := "0b035dd7d8dd94c47870f110cb2cf5c41e43f59f3407fc8c017d05fba3495624", func := "revetment/revetmentlaw10.RecPuts", spec := "recPuts", unfollowed := true, recurses := true, apart := false, narrowed := true }
def RecPutsUptoSaid : Prop := recPutsUptoRow.holds Try.pinned (OpenSpec.upto recPutsSpec)

end Rows
end Go.Proofs.Ytmegpanmiagheaa
