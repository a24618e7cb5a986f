/-
  No cell of these rows narrows 'for every input' (looked for: loops, veiled, ifaces, maps, wideKeys, modest, calm, conditions, laid).
  DERIVED. THE GIVEN ROWS OF THIS SEAT. 12 by the template 'for every input the law returns true; each argument reads behind the call as it read before'; 0 by the template 'total and deterministic' (their statements: YtaanlcegmkmphaaTotals.lean).
  GIVEN WITH THE SEED: the statements are not yours to turn. If you find one false, say at which input.
  Laid BY PROGRAM, IN A SANDBOX (cutbox-rows.mjs): the forced cells as the released guide's own fill.sh prints them over the translation 0886d858b7977ede… (all of the seat's roots in one cut). By AI agents, Wed Nov 11 2026. No macro, syntax, notation, axiom, sorry.
-/
import Derived.Test.YtaanlcegmkmphaaChecked
import GoSem.Claim
import GoSem.ClaimJoined
import GoSem.ClaimMapViews
import Derived.JoinedTies
import Derived.KernelRfl
namespace Go.Proofs.Ytaanlcegmkmphaa
/- THE CELL 'sum', in the pinned program and in every row, IS THE sha256 OF THE DUMP (.gsa) THAT YtaanlcegmkmphaaProg.lean LOADS. Nothing in Lean hashes anything: it is a label: what it is worth is what the hold of that sum in a sandbox is worth. -/
noncomputable def Try.pinned : Pinned := { name := "ytaanlcegmkmphaa", sum := "0886d858b7977ede9df8c500780105ee1d20f1d62b938b9bdc8836d1b23a6ae3", checked := Try.checked }
namespace Rows
def none {H : Type} : Left H := { results := [], args := [] }

/-- 'revetmentlaw34.QueueSame': WHATEVER THE INPUT: true; the input reads as it did. -/
def queueSameSpec : ChangeSpec := { name := "queueSame", fn := fun _ => fun
  | [d1, d2] => { results := [.lit (.bool true)], args := [d1, d2] }
  | _ => none }
def queueSameRow : OpenClaim := { program := "ytaanlcegmkmphaa", sum := "0886d858b7977ede9df8c500780105ee1d20f1d62b938b9bdc8836d1b23a6ae3", func := "revetment/revetmentlaw34.QueueSame", spec := "queueSame", unfollowed := true, recurses := true, apart := false }
def QueueSameSaid : Prop := queueSameRow.holds Try.pinned (OpenSpec.ofChange queueSameSpec)

/-- ITS FALSE NEIGHBOUR: 'it returns false'. Refute it at one input. -/
def queueSameWrong : ChangeSpec := { name := "queueSame", fn := fun _ => fun
  | [d1, d2] => { results := [.lit (.bool false)], args := [d1, d2] }
  | _ => none }
def QueueSameWrongFalsely : Prop := queueSameRow.holds Try.pinned (OpenSpec.ofChange queueSameWrong)

/-- 'revetmentlaw07.ConfGets': WHATEVER THE INPUT: true; the input reads as it did. -/
def confGetsSpec : ChangeSpec := { name := "confGets", fn := fun _ => fun
  | [d] => { results := [.lit (.bool true)], args := [d] }
  | _ => none }
def confGetsRow : OpenClaim := { program := "ytaanlcegmkmphaa", sum := "0886d858b7977ede9df8c500780105ee1d20f1d62b938b9bdc8836d1b23a6ae3", func := "revetment/revetmentlaw07.ConfGets", spec := "confGets", unfollowed := true, recurses := true, apart := false }
def ConfGetsSaid : Prop := confGetsRow.holds Try.pinned (OpenSpec.ofChange confGetsSpec)

/-- ITS FALSE NEIGHBOUR: 'it returns false'. Refute it at one input. -/
def confGetsWrong : ChangeSpec := { name := "confGets", fn := fun _ => fun
  | [d] => { results := [.lit (.bool false)], args := [d] }
  | _ => none }
def ConfGetsWrongFalsely : Prop := confGetsRow.holds Try.pinned (OpenSpec.ofChange confGetsWrong)

/-- 'revetmentlaw19.BitmapRuns': WHATEVER THE INPUT: true; the input reads as it did. -/
def bitmapRunsSpec : ChangeSpec := { name := "bitmapRuns", fn := fun _ => fun
  | [d1, d2, d3, d4] => { results := [.lit (.bool true)], args := [d1, d2, d3, d4] }
  | _ => none }
def bitmapRunsRow : OpenClaim := { program := "ytaanlcegmkmphaa", sum := "0886d858b7977ede9df8c500780105ee1d20f1d62b938b9bdc8836d1b23a6ae3", func := "revetment/revetmentlaw19.BitmapRuns", spec := "bitmapRuns", apart := false }
def BitmapRunsSaid : Prop := bitmapRunsRow.holds Try.pinned (OpenSpec.ofChange bitmapRunsSpec)

/-- ITS FALSE NEIGHBOUR: 'it returns false'. Refute it at one input. -/
def bitmapRunsWrong : ChangeSpec := { name := "bitmapRuns", fn := fun _ => fun
  | [d1, d2, d3, d4] => { results := [.lit (.bool false)], args := [d1, d2, d3, d4] }
  | _ => none }
def BitmapRunsWrongFalsely : Prop := bitmapRunsRow.holds Try.pinned (OpenSpec.ofChange bitmapRunsWrong)

/-- 'revetmentlaw15.StripeLacks': WHATEVER THE INPUT: true; the input reads as it did. -/
def stripeLacksSpec : ChangeSpec := { name := "stripeLacks", fn := fun _ => fun
  | [d1, d2, d3] => { results := [.lit (.bool true)], args := [d1, d2, d3] }
  | _ => none }
def stripeLacksRow : OpenClaim := { program := "ytaanlcegmkmphaa", sum := "0886d858b7977ede9df8c500780105ee1d20f1d62b938b9bdc8836d1b23a6ae3", func := "revetment/revetmentlaw15.StripeLacks", spec := "stripeLacks", unfollowed := true, recurses := true, apart := false }
def StripeLacksSaid : Prop := stripeLacksRow.holds Try.pinned (OpenSpec.ofChange stripeLacksSpec)

/-- ITS FALSE NEIGHBOUR: 'it returns false'. Refute it at one input. -/
def stripeLacksWrong : ChangeSpec := { name := "stripeLacks", fn := fun _ => fun
  | [d1, d2, d3] => { results := [.lit (.bool false)], args := [d1, d2, d3] }
  | _ => none }
def StripeLacksWrongFalsely : Prop := stripeLacksRow.holds Try.pinned (OpenSpec.ofChange stripeLacksWrong)

/-- 'revetmentlaw07.ConfPuts': WHATEVER THE INPUT: true; the input reads as it did. -/
def confPutsSpec : ChangeSpec := { name := "confPuts", fn := fun _ => fun
  | [d] => { results := [.lit (.bool true)], args := [d] }
  | _ => none }
def confPutsRow : OpenClaim := { program := "ytaanlcegmkmphaa", sum := "0886d858b7977ede9df8c500780105ee1d20f1d62b938b9bdc8836d1b23a6ae3", func := "revetment/revetmentlaw07.ConfPuts", spec := "confPuts", unfollowed := true, recurses := true, apart := false }
def ConfPutsSaid : Prop := confPutsRow.holds Try.pinned (OpenSpec.ofChange confPutsSpec)

/-- ITS FALSE NEIGHBOUR: 'it returns false'. Refute it at one input. -/
def confPutsWrong : ChangeSpec := { name := "confPuts", fn := fun _ => fun
  | [d] => { results := [.lit (.bool false)], args := [d] }
  | _ => none }
def ConfPutsWrongFalsely : Prop := confPutsRow.holds Try.pinned (OpenSpec.ofChange confPutsWrong)

/-- 'revetmentlaw15.StripeOvers': WHATEVER THE INPUT: true; the input reads as it did. -/
def stripeOversSpec : ChangeSpec := { name := "stripeOvers", fn := fun _ => fun
  | [d1, d2, d3] => { results := [.lit (.bool true)], args := [d1, d2, d3] }
  | _ => none }
def stripeOversRow : OpenClaim := { program := "ytaanlcegmkmphaa", sum := "0886d858b7977ede9df8c500780105ee1d20f1d62b938b9bdc8836d1b23a6ae3", func := "revetment/revetmentlaw15.StripeOvers", spec := "stripeOvers", unfollowed := true, recurses := true, apart := false }
def StripeOversSaid : Prop := stripeOversRow.holds Try.pinned (OpenSpec.ofChange stripeOversSpec)

/-- ITS FALSE NEIGHBOUR: 'it returns false'. Refute it at one input. -/
def stripeOversWrong : ChangeSpec := { name := "stripeOvers", fn := fun _ => fun
  | [d1, d2, d3] => { results := [.lit (.bool false)], args := [d1, d2, d3] }
  | _ => none }
def StripeOversWrongFalsely : Prop := stripeOversRow.holds Try.pinned (OpenSpec.ofChange stripeOversWrong)

/-- 'revetmentlaw15.StripePushes': WHATEVER THE INPUT: true; the input reads as it did. -/
def stripePushesSpec : ChangeSpec := { name := "stripePushes", fn := fun _ => fun
  | [d1, d2, d3] => { results := [.lit (.bool true)], args := [d1, d2, d3] }
  | _ => none }
def stripePushesRow : OpenClaim := { program := "ytaanlcegmkmphaa", sum := "0886d858b7977ede9df8c500780105ee1d20f1d62b938b9bdc8836d1b23a6ae3", func := "revetment/revetmentlaw15.StripePushes", spec := "stripePushes", unfollowed := true, recurses := true, apart := false }
def StripePushesSaid : Prop := stripePushesRow.holds Try.pinned (OpenSpec.ofChange stripePushesSpec)

/-- ITS FALSE NEIGHBOUR: 'it returns false'. Refute it at one input. -/
def stripePushesWrong : ChangeSpec := { name := "stripePushes", fn := fun _ => fun
  | [d1, d2, d3] => { results := [.lit (.bool false)], args := [d1, d2, d3] }
  | _ => none }
def StripePushesWrongFalsely : Prop := stripePushesRow.holds Try.pinned (OpenSpec.ofChange stripePushesWrong)

/-- 'revetmentlaw34.QueuePlays': WHATEVER THE INPUT: true; the input reads as it did. -/
def queuePlaysSpec : ChangeSpec := { name := "queuePlays", fn := fun _ => fun
  | [d1, d2] => { results := [.lit (.bool true)], args := [d1, d2] }
  | _ => none }
def queuePlaysRow : OpenClaim := { program := "ytaanlcegmkmphaa", sum := "0886d858b7977ede9df8c500780105ee1d20f1d62b938b9bdc8836d1b23a6ae3", func := "revetment/revetmentlaw34.QueuePlays", spec := "queuePlays", unfollowed := true, recurses := true, apart := false }
def QueuePlaysSaid : Prop := queuePlaysRow.holds Try.pinned (OpenSpec.ofChange queuePlaysSpec)

/-- ITS FALSE NEIGHBOUR: 'it returns false'. Refute it at one input. -/
def queuePlaysWrong : ChangeSpec := { name := "queuePlays", fn := fun _ => fun
  | [d1, d2] => { results := [.lit (.bool false)], args := [d1, d2] }
  | _ => none }
def QueuePlaysWrongFalsely : Prop := queuePlaysRow.holds Try.pinned (OpenSpec.ofChange queuePlaysWrong)

/-- 'revetmentlaw05.ZdevLimit': WHATEVER THE INPUT: true; the input reads as it did. -/
def zdevLimitSpec : ChangeSpec := { name := "zdevLimit", fn := fun _ => fun
  | [d1, d2] => { results := [.lit (.bool true)], args := [d1, d2] }
  | _ => none }
def zdevLimitRow : OpenClaim := { program := "ytaanlcegmkmphaa", sum := "0886d858b7977ede9df8c500780105ee1d20f1d62b938b9bdc8836d1b23a6ae3", func := "revetment/revetmentlaw05.ZdevLimit", spec := "zdevLimit", unfollowed := true, recurses := true, apart := false }
def ZdevLimitSaid : Prop := zdevLimitRow.holds Try.pinned (OpenSpec.ofChange zdevLimitSpec)

/-- ITS FALSE NEIGHBOUR: 'it returns false'. Refute it at one input. -/
def zdevLimitWrong : ChangeSpec := { name := "zdevLimit", fn := fun _ => fun
  | [d1, d2] => { results := [.lit (.bool false)], args := [d1, d2] }
  | _ => none }
def ZdevLimitWrongFalsely : Prop := zdevLimitRow.holds Try.pinned (OpenSpec.ofChange zdevLimitWrong)

/-- 'revetmentlaw27.CmdPuts': WHATEVER THE INPUT: true; the input reads as it did. -/
def cmdPutsSpec : ChangeSpec := { name := "cmdPuts", fn := fun _ => fun
  | [d1, d2] => { results := [.lit (.bool true)], args := [d1, d2] }
  | _ => none }
def cmdPutsRow : OpenClaim := { program := "ytaanlcegmkmphaa", sum := "0886d858b7977ede9df8c500780105ee1d20f1d62b938b9bdc8836d1b23a6ae3", func := "revetment/revetmentlaw27.CmdPuts", spec := "cmdPuts", apart := false }
def CmdPutsSaid : Prop := cmdPutsRow.holds Try.pinned (OpenSpec.ofChange cmdPutsSpec)

/-- ITS FALSE NEIGHBOUR: 'it returns false'. Refute it at one input. -/
def cmdPutsWrong : ChangeSpec := { name := "cmdPuts", fn := fun _ => fun
  | [d1, d2] => { results := [.lit (.bool false)], args := [d1, d2] }
  | _ => none }
def CmdPutsWrongFalsely : Prop := cmdPutsRow.holds Try.pinned (OpenSpec.ofChange cmdPutsWrong)

/-- 'revetmentlaw27.CmdGets': WHATEVER THE INPUT: true; the input reads as it did. -/
def cmdGetsSpec : ChangeSpec := { name := "cmdGets", fn := fun _ => fun
  | [d] => { results := [.lit (.bool true)], args := [d] }
  | _ => none }
def cmdGetsRow : OpenClaim := { program := "ytaanlcegmkmphaa", sum := "0886d858b7977ede9df8c500780105ee1d20f1d62b938b9bdc8836d1b23a6ae3", func := "revetment/revetmentlaw27.CmdGets", spec := "cmdGets", apart := false }
def CmdGetsSaid : Prop := cmdGetsRow.holds Try.pinned (OpenSpec.ofChange cmdGetsSpec)

/-- ITS FALSE NEIGHBOUR: 'it returns false'. Refute it at one input. -/
def cmdGetsWrong : ChangeSpec := { name := "cmdGets", fn := fun _ => fun
  | [d] => { results := [.lit (.bool false)], args := [d] }
  | _ => none }
def CmdGetsWrongFalsely : Prop := cmdGetsRow.holds Try.pinned (OpenSpec.ofChange cmdGetsWrong)

/-- 'revetmentlaw10.RecPuts': WHATEVER THE INPUT: true; the input reads as it did. -/
def recPutsSpec : ChangeSpec := { name := "recPuts", fn := fun _ => fun
  | [d1, d2, d3] => { results := [.lit (.bool true)], args := [d1, d2, d3] }
  | _ => none }
def recPutsRow : OpenClaim := { program := "ytaanlcegmkmphaa", sum := "0886d858b7977ede9df8c500780105ee1d20f1d62b938b9bdc8836d1b23a6ae3", func := "revetment/revetmentlaw10.RecPuts", spec := "recPuts", unfollowed := true, recurses := true, apart := false }
def RecPutsSaid : Prop := recPutsRow.holds Try.pinned (OpenSpec.ofChange recPutsSpec)

/-- ITS FALSE NEIGHBOUR: 'it returns false'. Refute it at one input. -/
def recPutsWrong : ChangeSpec := { name := "recPuts", fn := fun _ => fun
  | [d1, d2, d3] => { results := [.lit (.bool false)], args := [d1, d2, d3] }
  | _ => none }
def RecPutsWrongFalsely : Prop := recPutsRow.holds Try.pinned (OpenSpec.ofChange recPutsWrong)

/- THE SECOND FORM. 'bulk': how many values and letters a reading holds, each counted each time it is reached (what is shared counts as often as it is met; a slice's spare places count too). A statement '..UptoSaid' is the law's where the arguments, and the package variables that the reading takes, are together of bulk at most 1048576: NARROWER than '..Said'. Prove '..Said' where nothing that the law and all that it calls make is longer than what came in: it says more and counts as full. Else prove '..UptoSaid'. A law counts once. -/
mutual
def uptoBulk {H : Type} : DataW H → Nat
  | .lit (.string bytes) => bytes.length + 1
  | .lit _ => 1
  | .nil => 1
  | .ptr d => uptoBulk d + 1
  | .slice elems spare => uptoBulkAll elems + uptoBulkAll spare + 1
  | .agg parts => uptoBulkAll parts + 1
  | .iface _ d => uptoBulk d + 1
  | .map entries => uptoBulkEntries entries + 1
  | .held _ => 1
def uptoBulkAll {H : Type} : List (DataW H) → Nat
  | [] => 0
  | d :: r => uptoBulk d + uptoBulkAll r
def uptoBulkEntries {H : Type} : List (Lit × DataW H) → Nat
  | [] => 0
  | x :: r => uptoBulkEntry x + uptoBulkEntries r
def uptoBulkEntry {H : Type} : Lit × DataW H → Nat
  | (.string bytes, d) => bytes.length + uptoBulk d + 1
  | (_, d) => uptoBulk d + 1
 end
def uptoSmall : (H : Type) → List (DataW H) → Bool := fun _ ds => decide (uptoBulkAll ds ≤ 1048576)
def OpenSpec.upto (s : _root_.Go.ChangeSpec) : _root_.Go.OpenSpec := { _root_.Go.OpenSpec.ofChange s with cond := some uptoSmall }

/-- 'revetmentlaw34.QueueSame', WHERE WHAT IT READS IS OF BULK AT MOST 1048576: true; the input reads as it did. -/
def queueSameUptoRow : OpenClaim := { program := "ytaanlcegmkmphaa", sum := "0886d858b7977ede9df8c500780105ee1d20f1d62b938b9bdc8836d1b23a6ae3", func := "revetment/revetmentlaw34.QueueSame", spec := "queueSame", unfollowed := true, recurses := true, apart := false, narrowed := true }
def QueueSameUptoSaid : Prop := queueSameUptoRow.holds Try.pinned (OpenSpec.upto queueSameSpec)

/-- 'revetmentlaw07.ConfGets', WHERE WHAT IT READS IS OF BULK AT MOST 1048576: true; the input reads as it did. -/
def confGetsUptoRow : OpenClaim := { program := "ytaanlcegmkmphaa", sum := "0886d858b7977ede9df8c500780105ee1d20f1d62b938b9bdc8836d1b23a6ae3", func := "revetment/revetmentlaw07.ConfGets", spec := "confGets", unfollowed := true, recurses := true, apart := false, narrowed := true }
def ConfGetsUptoSaid : Prop := confGetsUptoRow.holds Try.pinned (OpenSpec.upto confGetsSpec)

/-- 'revetmentlaw19.BitmapRuns', WHERE WHAT IT READS IS OF BULK AT MOST 1048576: true; the input reads as it did. -/
def bitmapRunsUptoRow : OpenClaim := { program := "ytaanlcegmkmphaa", sum := "0886d858b7977ede9df8c500780105ee1d20f1d62b938b9bdc8836d1b23a6ae3", func := "revetment/revetmentlaw19.BitmapRuns", spec := "bitmapRuns", apart := false, narrowed := true }
def BitmapRunsUptoSaid : Prop := bitmapRunsUptoRow.holds Try.pinned (OpenSpec.upto bitmapRunsSpec)

/-- 'revetmentlaw15.StripeLacks', WHERE WHAT IT READS IS OF BULK AT MOST 1048576: true; the input reads as it did. -/
def stripeLacksUptoRow : OpenClaim := { program := "ytaanlcegmkmphaa", sum := "0886d858b7977ede9df8c500780105ee1d20f1d62b938b9bdc8836d1b23a6ae3", func := "revetment/revetmentlaw15.StripeLacks", spec := "stripeLacks", unfollowed := true, recurses := true, apart := false, narrowed := true }
def StripeLacksUptoSaid : Prop := stripeLacksUptoRow.holds Try.pinned (OpenSpec.upto stripeLacksSpec)

/-- 'revetmentlaw07.ConfPuts', WHERE WHAT IT READS IS OF BULK AT MOST 1048576: true; the input reads as it did. -/
def confPutsUptoRow : OpenClaim := { program := "ytaanlcegmkmphaa", sum := "0886d858b7977ede9df8c500780105ee1d20f1d62b938b9bdc8836d1b23a6ae3", func := "revetment/revetmentlaw07.ConfPuts", spec := "confPuts", unfollowed := true, recurses := true, apart := false, narrowed := true }
def ConfPutsUptoSaid : Prop := confPutsUptoRow.holds Try.pinned (OpenSpec.upto confPutsSpec)

/-- 'revetmentlaw15.StripeOvers', WHERE WHAT IT READS IS OF BULK AT MOST 1048576: true; the input reads as it did. -/
def stripeOversUptoRow : OpenClaim := { program := "ytaanlcegmkmphaa", sum := "0886d858b7977ede9df8c500780105ee1d20f1d62b938b9bdc8836d1b23a6ae3", func := "revetment/revetmentlaw15.StripeOvers", spec := "stripeOvers", unfollowed := true, recurses := true, apart := false, narrowed := true }
def StripeOversUptoSaid : Prop := stripeOversUptoRow.holds Try.pinned (OpenSpec.upto stripeOversSpec)

/-- 'revetmentlaw15.StripePushes', WHERE WHAT IT READS IS OF BULK AT MOST 1048576: true; the input reads as it did. -/
def stripePushesUptoRow : OpenClaim := { program := "ytaanlcegmkmphaa", sum := "0886d858b7977ede9df8c500780105ee1d20f1d62b938b9bdc8836d1b23a6ae3", func := "revetment/revetmentlaw15.StripePushes", spec := "stripePushes", unfollowed := true, recurses := true, apart := false, narrowed := true }
def StripePushesUptoSaid : Prop := stripePushesUptoRow.holds Try.pinned (OpenSpec.upto stripePushesSpec)

/-- 'revetmentlaw34.QueuePlays', WHERE WHAT IT READS IS OF BULK AT MOST 1048576: true; the input reads as it did. -/
def queuePlaysUptoRow : OpenClaim := { program := "ytaanlcegmkmphaa", sum := "0886d858b7977ede9df8c500780105ee1d20f1d62b938b9bdc8836d1b23a6ae3", func := "revetment/revetmentlaw34.QueuePlays", spec := "queuePlays", unfollowed := true, recurses := true, apart := false, narrowed := true }
def QueuePlaysUptoSaid : Prop := queuePlaysUptoRow.holds Try.pinned (OpenSpec.upto queuePlaysSpec)

/-- 'revetmentlaw05.ZdevLimit', WHERE WHAT IT READS IS OF BULK AT MOST 1048576: true; the input reads as it did. -/
def zdevLimitUptoRow : OpenClaim := { program := "ytaanlcegmkmphaa", sum := "0886d858b7977ede9df8c500780105ee1d20f1d62b938b9bdc8836d1b23a6ae3", func := "revetment/revetmentlaw05.ZdevLimit", spec := "zdevLimit", unfollowed := true, recurses := true, apart := false, narrowed := true }
def ZdevLimitUptoSaid : Prop := zdevLimitUptoRow.holds Try.pinned (OpenSpec.upto zdevLimitSpec)

/-- 'revetmentlaw27.CmdPuts', WHERE WHAT IT READS IS OF BULK AT MOST 1048576: true; the input reads as it did. -/
def cmdPutsUptoRow : OpenClaim := { program := "ytaanlcegmkmphaa", sum := "0886d858b7977ede9df8c500780105ee1d20f1d62b938b9bdc8836d1b23a6ae3", func := "revetment/revetmentlaw27.CmdPuts", spec := "cmdPuts", apart := false, narrowed := true }
def CmdPutsUptoSaid : Prop := cmdPutsUptoRow.holds Try.pinned (OpenSpec.upto cmdPutsSpec)

/-- 'revetmentlaw27.CmdGets', WHERE WHAT IT READS IS OF BULK AT MOST 1048576: true; the input reads as it did. -/
def cmdGetsUptoRow : OpenClaim := { program := "ytaanlcegmkmphaa", sum := "0886d858b7977ede9df8c500780105ee1d20f1d62b938b9bdc8836d1b23a6ae3", func := "revetment/revetmentlaw27.CmdGets", spec := "cmdGets", apart := false, narrowed := true }
def CmdGetsUptoSaid : Prop := cmdGetsUptoRow.holds Try.pinned (OpenSpec.upto cmdGetsSpec)

/-- 'revetmentlaw10.RecPuts', WHERE WHAT IT READS IS OF BULK AT MOST 1048576: true; the input reads as it did. -/
def recPutsUptoRow : OpenClaim := { program := "ytaanlcegmkmphaa", sum := "0886d858b7977ede9df8c500780105ee1d20f1d62b938b9bdc8836d1b23a6ae3", func := "revetment/revetmentlaw10.RecPuts", spec := "recPuts", unfollowed := true, recurses := true, apart := false, narrowed := true }
def RecPutsUptoSaid : Prop := recPutsUptoRow.holds Try.pinned (OpenSpec.upto recPutsSpec)

end Rows
end Go.Proofs.Ytaanlcegmkmphaa
