/-
  No cell of these rows narrows 'for every input' (looked for: loops, veiled, ifaces, maps, wideKeys, modest, calm, conditions, laid).
  DERIVED. THE GIVEN ROWS OF THIS SEAT. 8 by the template 'for every input the law returns true; each argument reads behind the call as it read before'; 0 by the template 'total and deterministic' (their statements: YtknhemdpfdopaaaTotals.lean).
  GIVEN WITH THE SEED: the statements are not yours to turn. If you find one false, say at which input.
  Laid BY PROGRAM, IN A SANDBOX (cutbox-rows.mjs): the forced cells as the released guide's own fill.sh prints them over the translation ebd277c4d819b6e6… (all of the seat's roots in one cut). By AI agents, Wed Nov 11 2026. No macro, syntax, notation, axiom, sorry.
-/
import Derived.Test.YtknhemdpfdopaaaChecked
import GoSem.Claim
import GoSem.ClaimJoined
import GoSem.ClaimMapViews
import Derived.JoinedTies
import Derived.KernelRfl
namespace Go.Proofs.Ytknhemdpfdopaaa
/- THE CELL 'sum', in the pinned program and in every row, IS THE sha256 OF THE DUMP (.gsa) THAT YtknhemdpfdopaaaProg.lean LOADS. Nothing in Lean hashes anything: it is a label: what it is worth is what the hold of that sum in a sandbox is worth. -/
noncomputable def Try.pinned : Pinned := { name := "ytknhemdpfdopaaa", sum := "ebd277c4d819b6e6f0fbf9903b3bfc6813f36bf91ffea05a0df04b3cbc427e9c", checked := Try.checked }
namespace Rows
def none {H : Type} : Left H := { results := [], args := [] }

/-- 'revetmentlaw40.WearOrders': WHATEVER THE INPUT: true; the input reads as it did. -/
def wearOrdersSpec : ChangeSpec := { name := "wearOrders", fn := fun _ => fun
  | [d1, d2] => { results := [.lit (.bool true)], args := [d1, d2] }
  | _ => none }
def wearOrdersRow : OpenClaim := { program := "ytknhemdpfdopaaa", sum := "ebd277c4d819b6e6f0fbf9903b3bfc6813f36bf91ffea05a0df04b3cbc427e9c", func := "revetment/revetmentlaw40.WearOrders", spec := "wearOrders", apart := false }
def WearOrdersSaid : Prop := wearOrdersRow.holds Try.pinned (OpenSpec.ofChange wearOrdersSpec)

/-- ITS FALSE NEIGHBOUR: 'it returns false'. Refute it at one input. -/
def wearOrdersWrong : ChangeSpec := { name := "wearOrders", fn := fun _ => fun
  | [d1, d2] => { results := [.lit (.bool false)], args := [d1, d2] }
  | _ => none }
def WearOrdersWrongFalsely : Prop := wearOrdersRow.holds Try.pinned (OpenSpec.ofChange wearOrdersWrong)

/-- 'revetmentlaw03.XorParts': WHATEVER THE INPUT: true; the input reads as it did. -/
def xorPartsSpec : ChangeSpec := { name := "xorParts", fn := fun _ => fun
  | [d1, d2, d3] => { results := [.lit (.bool true)], args := [d1, d2, d3] }
  | _ => none }
def xorPartsRow : OpenClaim := { program := "ytknhemdpfdopaaa", sum := "ebd277c4d819b6e6f0fbf9903b3bfc6813f36bf91ffea05a0df04b3cbc427e9c", func := "revetment/revetmentlaw03.XorParts", spec := "xorParts", unfollowed := true, recurses := true, apart := false }
def XorPartsSaid : Prop := xorPartsRow.holds Try.pinned (OpenSpec.ofChange xorPartsSpec)

/-- ITS FALSE NEIGHBOUR: 'it returns false'. Refute it at one input. -/
def xorPartsWrong : ChangeSpec := { name := "xorParts", fn := fun _ => fun
  | [d1, d2, d3] => { results := [.lit (.bool false)], args := [d1, d2, d3] }
  | _ => none }
def XorPartsWrongFalsely : Prop := xorPartsRow.holds Try.pinned (OpenSpec.ofChange xorPartsWrong)

/-- 'revetmentlaw34.QueueMerges': WHATEVER THE INPUT: true; the input reads as it did. -/
def queueMergesSpec : ChangeSpec := { name := "queueMerges", fn := fun _ => fun
  | [d1, d2] => { results := [.lit (.bool true)], args := [d1, d2] }
  | _ => none }
def queueMergesRow : OpenClaim := { program := "ytknhemdpfdopaaa", sum := "ebd277c4d819b6e6f0fbf9903b3bfc6813f36bf91ffea05a0df04b3cbc427e9c", func := "revetment/revetmentlaw34.QueueMerges", spec := "queueMerges", unfollowed := true, recurses := true, apart := false }
def QueueMergesSaid : Prop := queueMergesRow.holds Try.pinned (OpenSpec.ofChange queueMergesSpec)

/-- ITS FALSE NEIGHBOUR: 'it returns false'. Refute it at one input. -/
def queueMergesWrong : ChangeSpec := { name := "queueMerges", fn := fun _ => fun
  | [d1, d2] => { results := [.lit (.bool false)], args := [d1, d2] }
  | _ => none }
def QueueMergesWrongFalsely : Prop := queueMergesRow.holds Try.pinned (OpenSpec.ofChange queueMergesWrong)

/-- 'revetmentlaw34.QueueSame': WHATEVER THE INPUT: true; the input reads as it did. -/
def queueSameSpec : ChangeSpec := { name := "queueSame", fn := fun _ => fun
  | [d1, d2] => { results := [.lit (.bool true)], args := [d1, d2] }
  | _ => none }
def queueSameRow : OpenClaim := { program := "ytknhemdpfdopaaa", sum := "ebd277c4d819b6e6f0fbf9903b3bfc6813f36bf91ffea05a0df04b3cbc427e9c", func := "revetment/revetmentlaw34.QueueSame", spec := "queueSame", unfollowed := true, recurses := true, apart := false }
def QueueSameSaid : Prop := queueSameRow.holds Try.pinned (OpenSpec.ofChange queueSameSpec)

/-- ITS FALSE NEIGHBOUR: 'it returns false'. Refute it at one input. -/
def queueSameWrong : ChangeSpec := { name := "queueSame", fn := fun _ => fun
  | [d1, d2] => { results := [.lit (.bool false)], args := [d1, d2] }
  | _ => none }
def QueueSameWrongFalsely : Prop := queueSameRow.holds Try.pinned (OpenSpec.ofChange queueSameWrong)

/-- 'revetmentlaw34.QueuePlays': WHATEVER THE INPUT: true; the input reads as it did. -/
def queuePlaysSpec : ChangeSpec := { name := "queuePlays", fn := fun _ => fun
  | [d1, d2] => { results := [.lit (.bool true)], args := [d1, d2] }
  | _ => none }
def queuePlaysRow : OpenClaim := { program := "ytknhemdpfdopaaa", sum := "ebd277c4d819b6e6f0fbf9903b3bfc6813f36bf91ffea05a0df04b3cbc427e9c", func := "revetment/revetmentlaw34.QueuePlays", spec := "queuePlays", unfollowed := true, recurses := true, apart := false }
def QueuePlaysSaid : Prop := queuePlaysRow.holds Try.pinned (OpenSpec.ofChange queuePlaysSpec)

/-- ITS FALSE NEIGHBOUR: 'it returns false'. Refute it at one input. -/
def queuePlaysWrong : ChangeSpec := { name := "queuePlays", fn := fun _ => fun
  | [d1, d2] => { results := [.lit (.bool false)], args := [d1, d2] }
  | _ => none }
def QueuePlaysWrongFalsely : Prop := queuePlaysRow.holds Try.pinned (OpenSpec.ofChange queuePlaysWrong)

/-- 'revetmentlaw15.StripeLacks': WHATEVER THE INPUT: true; the input reads as it did. -/
def stripeLacksSpec : ChangeSpec := { name := "stripeLacks", fn := fun _ => fun
  | [d1, d2, d3] => { results := [.lit (.bool true)], args := [d1, d2, d3] }
  | _ => none }
def stripeLacksRow : OpenClaim := { program := "ytknhemdpfdopaaa", sum := "ebd277c4d819b6e6f0fbf9903b3bfc6813f36bf91ffea05a0df04b3cbc427e9c", func := "revetment/revetmentlaw15.StripeLacks", spec := "stripeLacks", unfollowed := true, recurses := true, apart := false }
def StripeLacksSaid : Prop := stripeLacksRow.holds Try.pinned (OpenSpec.ofChange stripeLacksSpec)

/-- ITS FALSE NEIGHBOUR: 'it returns false'. Refute it at one input. -/
def stripeLacksWrong : ChangeSpec := { name := "stripeLacks", fn := fun _ => fun
  | [d1, d2, d3] => { results := [.lit (.bool false)], args := [d1, d2, d3] }
  | _ => none }
def StripeLacksWrongFalsely : Prop := stripeLacksRow.holds Try.pinned (OpenSpec.ofChange stripeLacksWrong)

/-- 'revetmentlaw15.StripeOvers': WHATEVER THE INPUT: true; the input reads as it did. -/
def stripeOversSpec : ChangeSpec := { name := "stripeOvers", fn := fun _ => fun
  | [d1, d2, d3] => { results := [.lit (.bool true)], args := [d1, d2, d3] }
  | _ => none }
def stripeOversRow : OpenClaim := { program := "ytknhemdpfdopaaa", sum := "ebd277c4d819b6e6f0fbf9903b3bfc6813f36bf91ffea05a0df04b3cbc427e9c", func := "revetment/revetmentlaw15.StripeOvers", spec := "stripeOvers", unfollowed := true, recurses := true, apart := false }
def StripeOversSaid : Prop := stripeOversRow.holds Try.pinned (OpenSpec.ofChange stripeOversSpec)

/-- ITS FALSE NEIGHBOUR: 'it returns false'. Refute it at one input. -/
def stripeOversWrong : ChangeSpec := { name := "stripeOvers", fn := fun _ => fun
  | [d1, d2, d3] => { results := [.lit (.bool false)], args := [d1, d2, d3] }
  | _ => none }
def StripeOversWrongFalsely : Prop := stripeOversRow.holds Try.pinned (OpenSpec.ofChange stripeOversWrong)

/-- 'revetmentlaw15.StripePushes': WHATEVER THE INPUT: true; the input reads as it did. -/
def stripePushesSpec : ChangeSpec := { name := "stripePushes", fn := fun _ => fun
  | [d1, d2, d3] => { results := [.lit (.bool true)], args := [d1, d2, d3] }
  | _ => none }
def stripePushesRow : OpenClaim := { program := "ytknhemdpfdopaaa", sum := "ebd277c4d819b6e6f0fbf9903b3bfc6813f36bf91ffea05a0df04b3cbc427e9c", func := "revetment/revetmentlaw15.StripePushes", spec := "stripePushes", unfollowed := true, recurses := true, apart := false }
def StripePushesSaid : Prop := stripePushesRow.holds Try.pinned (OpenSpec.ofChange stripePushesSpec)

/-- ITS FALSE NEIGHBOUR: 'it returns false'. Refute it at one input. -/
def stripePushesWrong : ChangeSpec := { name := "stripePushes", fn := fun _ => fun
  | [d1, d2, d3] => { results := [.lit (.bool false)], args := [d1, d2, d3] }
  | _ => none }
def StripePushesWrongFalsely : Prop := stripePushesRow.holds Try.pinned (OpenSpec.ofChange stripePushesWrong)

/- THE SECOND FORM. 'bulk': how many values and letters a reading holds, each counted each time it is reached (what is shared counts as often as it is met; a slice's spare places count too). A statement '..UptoSaid' is the law's where the arguments, and the package variables that the reading takes, are together of bulk at most 1048576: NARROWER than '..Said'. Prove '..Said' where nothing that the law and all that it calls make is longer than what came in: it says more and counts as full. Else prove '..UptoSaid'. A law counts once. -/
mutual
def uptoBulk {H : Type} : DataW H → Nat
  | .lit (.string bytes) => bytes.length + 1
  | .lit _ => 1
  | .nil => 1
  | .ptr d => uptoBulk d + 1
  | .slice elems spare => uptoBulkAll elems + uptoBulkAll spare + 1
  | .agg parts => uptoBulkAll parts + 1
  | .iface _ d => uptoBulk d + 1
  | .map entries => uptoBulkEntries entries + 1
  | .held _ => 1
def uptoBulkAll {H : Type} : List (DataW H) → Nat
  | [] => 0
  | d :: r => uptoBulk d + uptoBulkAll r
def uptoBulkEntries {H : Type} : List (Lit × DataW H) → Nat
  | [] => 0
  | x :: r => uptoBulkEntry x + uptoBulkEntries r
def uptoBulkEntry {H : Type} : Lit × DataW H → Nat
  | (.string bytes, d) => bytes.length + uptoBulk d + 1
  | (_, d) => uptoBulk d + 1
 end
def uptoSmall : (H : Type) → List (DataW H) → Bool := fun _ ds => decide (uptoBulkAll ds ≤ 1048576)
def OpenSpec.upto (s : _root_.Go.ChangeSpec) : _root_.Go.OpenSpec := { _root_.Go.OpenSpec.ofChange s with cond := some uptoSmall }

/-- 'revetmentlaw40.WearOrders', WHERE WHAT IT READS IS OF BULK AT MOST 1048576: true; the input reads as it did. -/
def wearOrdersUptoRow : OpenClaim := { program := "ytknhemdpfdopaaa", sum := "ebd277c4d819b6e6f0fbf9903b3bfc6813f36bf91ffea05a0df04b3cbc427e9c", func := "revetment/revetmentlaw40.WearOrders", spec := "wearOrders", apart := false, narrowed := true }
def WearOrdersUptoSaid : Prop := wearOrdersUptoRow.holds Try.pinned (OpenSpec.upto wearOrdersSpec)

/-- 'revetmentlaw03.XorParts', WHERE WHAT IT READS IS OF BULK AT MOST 1048576: true; the input reads as it did. -/
def xorPartsUptoRow : OpenClaim := { program := "ytknhemdpfdopaaa", sum := "ebd277c4d819b6e6f0fbf9903b3bfc6813f36bf91ffea05a0df04b3cbc427e9c", func := "revetment/revetmentlaw03.XorParts", spec := "xorParts", unfollowed := true, recurses := true, apart := false, narrowed := true }
def XorPartsUptoSaid : Prop := xorPartsUptoRow.holds Try.pinned (OpenSpec.upto xorPartsSpec)

/-- 'revetmentlaw34.QueueMerges', WHERE WHAT IT READS IS OF BULK AT MOST 1048576: true; the input reads as it did. -/
def queueMergesUptoRow : OpenClaim := { program := "ytknhemdpfdopaaa", sum := "ebd277c4d819b6e6f0fbf9903b3bfc6813f36bf91ffea05a0df04b3cbc427e9c", func := "revetment/revetmentlaw34.QueueMerges", spec := "queueMerges", unfollowed := true, recurses := true, apart := false, narrowed := true }
def QueueMergesUptoSaid : Prop := queueMergesUptoRow.holds Try.pinned (OpenSpec.upto queueMergesSpec)

/-- 'revetmentlaw34.QueueSame', WHERE WHAT IT READS IS OF BULK AT MOST 1048576: true; the input reads as it did. -/
def queueSameUptoRow : OpenClaim := { program := "ytknhemdpfdopaaa", sum := "ebd277c4d819b6e6f0fbf9903b3bfc6813f36bf91ffea05a0df04b3cbc427e9c", func := "revetment/revetmentlaw34.QueueSame", spec := "queueSame", unfollowed := true, recurses := true, apart := false, narrowed := true }
def QueueSameUptoSaid : Prop := queueSameUptoRow.holds Try.pinned (OpenSpec.upto queueSameSpec)

/-- 'revetmentlaw34.QueuePlays', WHERE WHAT IT READS IS OF BULK AT MOST 1048576: true; the input reads as it did. -/
def queuePlaysUptoRow : OpenClaim := { program := "ytknhemdpfdopaaa", sum := "ebd277c4d819b6e6f0fbf9903b3bfc6813f36bf91ffea05a0df04b3cbc427e9c", func := "revetment/revetmentlaw34.QueuePlays", spec := "queuePlays", unfollowed := true, recurses := true, apart := false, narrowed := true }
def QueuePlaysUptoSaid : Prop := queuePlaysUptoRow.holds Try.pinned (OpenSpec.upto queuePlaysSpec)

/-- 'revetmentlaw15.StripeLacks', WHERE WHAT IT READS IS OF BULK AT MOST 1048576: true; the input reads as it did. -/
def stripeLacksUptoRow : OpenClaim := { program := "ytknhemdpfdopaaa", sum := "ebd277c4d819b6e6f0fbf9903b3bfc6813f36bf91ffea05a0df04b3cbc427e9c", func := "revetment/revetmentlaw15.StripeLacks", spec := "stripeLacks", unfollowed := true, recurses := true, apart := false, narrowed := true }
def StripeLacksUptoSaid : Prop := stripeLacksUptoRow.holds Try.pinned (OpenSpec.upto stripeLacksSpec)

/-- 'revetmentlaw15.StripeOvers', WHERE WHAT IT READS IS OF BULK AT MOST 1048576: true; the input reads as it did. -/
def stripeOversUptoRow : OpenClaim := { program := "ytknhemdpfdopaaa", sum := "ebd277c4d819b6e6f0fbf9903b3bfc6813f36bf91ffea05a0df04b3cbc427e9c", func := "revetment/revetmentlaw15.StripeOvers", spec := "stripeOvers", unfollowed := true, recurses := true, apart := false, narrowed := true }
def StripeOversUptoSaid : Prop := stripeOversUptoRow.holds Try.pinned (OpenSpec.upto stripeOversSpec)

/-- 'revetmentlaw15.StripePushes', WHERE WHAT IT READS IS OF BULK AT MOST 1048576: true; the input reads as it did. -/
def stripePushesUptoRow : OpenClaim := { program := "ytknhemdpfdopaaa", sum := "ebd277c4d819b6e6f0fbf9903b3bfc6813f36bf91ffea05a0df04b3cbc427e9c", func := "revetment/revetmentlaw15.StripePushes", spec := "stripePushes", unfollowed := true, recurses := true, apart := false, narrowed := true }
def StripePushesUptoSaid : Prop := stripePushesUptoRow.holds Try.pinned (OpenSpec.upto stripePushesSpec)

end Rows
end Go.Proofs.Ytknhemdpfdopaaa
