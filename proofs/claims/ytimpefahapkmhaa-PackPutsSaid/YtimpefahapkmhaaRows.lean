/-
  No cell of these rows narrows 'for every input' (looked for: loops, veiled, ifaces, maps, wideKeys, modest, calm, conditions, laid).
  DERIVED. THE GIVEN ROWS OF THIS SEAT. 12 by the template 'for every input the law returns true; each argument reads behind the call as it read before'; 0 by the template 'total and deterministic' (their statements: YtimpefahapkmhaaTotals.lean).
  GIVEN WITH THE SEED: the statements are not yours to turn. If you find one false, say at which input.
  Laid BY PROGRAM, IN A SANDBOX (cutbox-rows.mjs): the forced cells as the released guide's own fill.sh prints them over the translation 4dfc5241fa93b7b7… (all of the seat's roots in one cut). By AI agents, Wed Nov 11 2026. No macro, syntax, notation, axiom, sorry.
-/
import Derived.Test.YtimpefahapkmhaaChecked
import GoSem.Claim
import GoSem.ClaimJoined
import GoSem.ClaimMapViews
import Derived.JoinedTies
import Derived.KernelRfl
namespace Go.Proofs.Ytimpefahapkmhaa
/- THE CELL 'sum', in the pinned program and in every row, IS THE sha256 OF THE DUMP (.gsa) THAT YtimpefahapkmhaaProg.lean LOADS. Nothing in Lean hashes anything: it is a label: what it is worth is what the hold of that sum in a sandbox is worth. -/
noncomputable def Try.pinned : Pinned := { name := "ytimpefahapkmhaa", sum := "4dfc5241fa93b7b773c65e9f468f697bbf35a17e951262e5a1a924e0b02de488", checked := Try.checked }
namespace Rows
def none {H : Type} : Left H := { results := [], args := [] }

/-- 'revetmentlaw02.CrcSums': WHATEVER THE INPUT: true; the input reads as it did. -/
def crcSumsSpec : ChangeSpec := { name := "crcSums", fn := fun _ => fun
  | [d1, d2, d3] => { results := [.lit (.bool true)], args := [d1, d2, d3] }
  | _ => none }
def crcSumsRow : OpenClaim := { program := "ytimpefahapkmhaa", sum := "4dfc5241fa93b7b773c65e9f468f697bbf35a17e951262e5a1a924e0b02de488", func := "revetment/revetmentlaw02.CrcSums", spec := "crcSums", apart := false }
def CrcSumsSaid : Prop := crcSumsRow.holds Try.pinned (OpenSpec.ofChange crcSumsSpec)

/-- ITS FALSE NEIGHBOUR: 'it returns false'. Refute it at one input. -/
def crcSumsWrong : ChangeSpec := { name := "crcSums", fn := fun _ => fun
  | [d1, d2, d3] => { results := [.lit (.bool false)], args := [d1, d2, d3] }
  | _ => none }
def CrcSumsWrongFalsely : Prop := crcSumsRow.holds Try.pinned (OpenSpec.ofChange crcSumsWrong)

/-- 'revetmentlaw02.CrcParts': WHATEVER THE INPUT: true; the input reads as it did. -/
def crcPartsSpec : ChangeSpec := { name := "crcParts", fn := fun _ => fun
  | [d1, d2, d3] => { results := [.lit (.bool true)], args := [d1, d2, d3] }
  | _ => none }
def crcPartsRow : OpenClaim := { program := "ytimpefahapkmhaa", sum := "4dfc5241fa93b7b773c65e9f468f697bbf35a17e951262e5a1a924e0b02de488", func := "revetment/revetmentlaw02.CrcParts", spec := "crcParts", apart := false }
def CrcPartsSaid : Prop := crcPartsRow.holds Try.pinned (OpenSpec.ofChange crcPartsSpec)

/-- ITS FALSE NEIGHBOUR: 'it returns false'. Refute it at one input. -/
def crcPartsWrong : ChangeSpec := { name := "crcParts", fn := fun _ => fun
  | [d1, d2, d3] => { results := [.lit (.bool false)], args := [d1, d2, d3] }
  | _ => none }
def CrcPartsWrongFalsely : Prop := crcPartsRow.holds Try.pinned (OpenSpec.ofChange crcPartsWrong)

/-- 'revetmentlaw03.XorLacks': WHATEVER THE INPUT: true; the input reads as it did. -/
def xorLacksSpec : ChangeSpec := { name := "xorLacks", fn := fun _ => fun
  | [d1, d2, d3] => { results := [.lit (.bool true)], args := [d1, d2, d3] }
  | _ => none }
def xorLacksRow : OpenClaim := { program := "ytimpefahapkmhaa", sum := "4dfc5241fa93b7b773c65e9f468f697bbf35a17e951262e5a1a924e0b02de488", func := "revetment/revetmentlaw03.XorLacks", spec := "xorLacks", apart := false }
def XorLacksSaid : Prop := xorLacksRow.holds Try.pinned (OpenSpec.ofChange xorLacksSpec)

/-- ITS FALSE NEIGHBOUR: 'it returns false'. Refute it at one input. -/
def xorLacksWrong : ChangeSpec := { name := "xorLacks", fn := fun _ => fun
  | [d1, d2, d3] => { results := [.lit (.bool false)], args := [d1, d2, d3] }
  | _ => none }
def XorLacksWrongFalsely : Prop := xorLacksRow.holds Try.pinned (OpenSpec.ofChange xorLacksWrong)

/-- 'revetmentlaw01.PackPuts': WHATEVER THE INPUT: true; the input reads as it did. -/
def packPutsSpec : ChangeSpec := { name := "packPuts", fn := fun _ => fun
  | [d1, d2, d3, d4, d5] => { results := [.lit (.bool true)], args := [d1, d2, d3, d4, d5] }
  | _ => none }
def packPutsRow : OpenClaim := { program := "ytimpefahapkmhaa", sum := "4dfc5241fa93b7b773c65e9f468f697bbf35a17e951262e5a1a924e0b02de488", func := "revetment/revetmentlaw01.PackPuts", spec := "packPuts", apart := false }
def PackPutsSaid : Prop := packPutsRow.holds Try.pinned (OpenSpec.ofChange packPutsSpec)

/-- ITS FALSE NEIGHBOUR: 'it returns false'. Refute it at one input. -/
def packPutsWrong : ChangeSpec := { name := "packPuts", fn := fun _ => fun
  | [d1, d2, d3, d4, d5] => { results := [.lit (.bool false)], args := [d1, d2, d3, d4, d5] }
  | _ => none }
def PackPutsWrongFalsely : Prop := packPutsRow.holds Try.pinned (OpenSpec.ofChange packPutsWrong)

/-- 'revetmentlaw03.XorOfs': WHATEVER THE INPUT: true; the input reads as it did. -/
def xorOfsSpec : ChangeSpec := { name := "xorOfs", fn := fun _ => fun
  | [d1, d2, d3] => { results := [.lit (.bool true)], args := [d1, d2, d3] }
  | _ => none }
def xorOfsRow : OpenClaim := { program := "ytimpefahapkmhaa", sum := "4dfc5241fa93b7b773c65e9f468f697bbf35a17e951262e5a1a924e0b02de488", func := "revetment/revetmentlaw03.XorOfs", spec := "xorOfs", unfollowed := true, recurses := true, apart := false }
def XorOfsSaid : Prop := xorOfsRow.holds Try.pinned (OpenSpec.ofChange xorOfsSpec)

/-- ITS FALSE NEIGHBOUR: 'it returns false'. Refute it at one input. -/
def xorOfsWrong : ChangeSpec := { name := "xorOfs", fn := fun _ => fun
  | [d1, d2, d3] => { results := [.lit (.bool false)], args := [d1, d2, d3] }
  | _ => none }
def XorOfsWrongFalsely : Prop := xorOfsRow.holds Try.pinned (OpenSpec.ofChange xorOfsWrong)

/-- 'revetmentlaw40.WearOrders': WHATEVER THE INPUT: true; the input reads as it did. -/
def wearOrdersSpec : ChangeSpec := { name := "wearOrders", fn := fun _ => fun
  | [d1, d2] => { results := [.lit (.bool true)], args := [d1, d2] }
  | _ => none }
def wearOrdersRow : OpenClaim := { program := "ytimpefahapkmhaa", sum := "4dfc5241fa93b7b773c65e9f468f697bbf35a17e951262e5a1a924e0b02de488", func := "revetment/revetmentlaw40.WearOrders", spec := "wearOrders", apart := false }
def WearOrdersSaid : Prop := wearOrdersRow.holds Try.pinned (OpenSpec.ofChange wearOrdersSpec)

/-- ITS FALSE NEIGHBOUR: 'it returns false'. Refute it at one input. -/
def wearOrdersWrong : ChangeSpec := { name := "wearOrders", fn := fun _ => fun
  | [d1, d2] => { results := [.lit (.bool false)], args := [d1, d2] }
  | _ => none }
def WearOrdersWrongFalsely : Prop := wearOrdersRow.holds Try.pinned (OpenSpec.ofChange wearOrdersWrong)

/-- 'revetmentlaw07.ConfChecks': WHATEVER THE INPUT: true; the input reads as it did. -/
def confChecksSpec : ChangeSpec := { name := "confChecks", fn := fun _ => fun
  | [d] => { results := [.lit (.bool true)], args := [d] }
  | _ => none }
def confChecksRow : OpenClaim := { program := "ytimpefahapkmhaa", sum := "4dfc5241fa93b7b773c65e9f468f697bbf35a17e951262e5a1a924e0b02de488", func := "revetment/revetmentlaw07.ConfChecks", spec := "confChecks", unfollowed := true, recurses := true, apart := false }
def ConfChecksSaid : Prop := confChecksRow.holds Try.pinned (OpenSpec.ofChange confChecksSpec)

/-- ITS FALSE NEIGHBOUR: 'it returns false'. Refute it at one input. -/
def confChecksWrong : ChangeSpec := { name := "confChecks", fn := fun _ => fun
  | [d] => { results := [.lit (.bool false)], args := [d] }
  | _ => none }
def ConfChecksWrongFalsely : Prop := confChecksRow.holds Try.pinned (OpenSpec.ofChange confChecksWrong)

/-- 'revetmentlaw40.WearEven': WHATEVER THE INPUT: true; the input reads as it did. -/
def wearEvenSpec : ChangeSpec := { name := "wearEven", fn := fun _ => fun
  | [d1, d2] => { results := [.lit (.bool true)], args := [d1, d2] }
  | _ => none }
def wearEvenRow : OpenClaim := { program := "ytimpefahapkmhaa", sum := "4dfc5241fa93b7b773c65e9f468f697bbf35a17e951262e5a1a924e0b02de488", func := "revetment/revetmentlaw40.WearEven", spec := "wearEven", apart := false }
def WearEvenSaid : Prop := wearEvenRow.holds Try.pinned (OpenSpec.ofChange wearEvenSpec)

/-- ITS FALSE NEIGHBOUR: 'it returns false'. Refute it at one input. -/
def wearEvenWrong : ChangeSpec := { name := "wearEven", fn := fun _ => fun
  | [d1, d2] => { results := [.lit (.bool false)], args := [d1, d2] }
  | _ => none }
def WearEvenWrongFalsely : Prop := wearEvenRow.holds Try.pinned (OpenSpec.ofChange wearEvenWrong)

/-- 'revetmentlaw19.BitmapAnds': WHATEVER THE INPUT: true; the input reads as it did. -/
def bitmapAndsSpec : ChangeSpec := { name := "bitmapAnds", fn := fun _ => fun
  | [d1, d2, d3, d4] => { results := [.lit (.bool true)], args := [d1, d2, d3, d4] }
  | _ => none }
def bitmapAndsRow : OpenClaim := { program := "ytimpefahapkmhaa", sum := "4dfc5241fa93b7b773c65e9f468f697bbf35a17e951262e5a1a924e0b02de488", func := "revetment/revetmentlaw19.BitmapAnds", spec := "bitmapAnds", apart := false }
def BitmapAndsSaid : Prop := bitmapAndsRow.holds Try.pinned (OpenSpec.ofChange bitmapAndsSpec)

/-- ITS FALSE NEIGHBOUR: 'it returns false'. Refute it at one input. -/
def bitmapAndsWrong : ChangeSpec := { name := "bitmapAnds", fn := fun _ => fun
  | [d1, d2, d3, d4] => { results := [.lit (.bool false)], args := [d1, d2, d3, d4] }
  | _ => none }
def BitmapAndsWrongFalsely : Prop := bitmapAndsRow.holds Try.pinned (OpenSpec.ofChange bitmapAndsWrong)

/-- 'revetmentlaw19.BitmapFills': WHATEVER THE INPUT: true; the input reads as it did. -/
def bitmapFillsSpec : ChangeSpec := { name := "bitmapFills", fn := fun _ => fun
  | [d1, d2, d3] => { results := [.lit (.bool true)], args := [d1, d2, d3] }
  | _ => none }
def bitmapFillsRow : OpenClaim := { program := "ytimpefahapkmhaa", sum := "4dfc5241fa93b7b773c65e9f468f697bbf35a17e951262e5a1a924e0b02de488", func := "revetment/revetmentlaw19.BitmapFills", spec := "bitmapFills", apart := false }
def BitmapFillsSaid : Prop := bitmapFillsRow.holds Try.pinned (OpenSpec.ofChange bitmapFillsSpec)

/-- ITS FALSE NEIGHBOUR: 'it returns false'. Refute it at one input. -/
def bitmapFillsWrong : ChangeSpec := { name := "bitmapFills", fn := fun _ => fun
  | [d1, d2, d3] => { results := [.lit (.bool false)], args := [d1, d2, d3] }
  | _ => none }
def BitmapFillsWrongFalsely : Prop := bitmapFillsRow.holds Try.pinned (OpenSpec.ofChange bitmapFillsWrong)

/-- 'revetmentlaw20.SlotsKinds': WHATEVER THE INPUT: true; the input reads as it did. -/
def slotsKindsSpec : ChangeSpec := { name := "slotsKinds", fn := fun _ => fun
  | [d1, d2] => { results := [.lit (.bool true)], args := [d1, d2] }
  | _ => none }
def slotsKindsRow : OpenClaim := { program := "ytimpefahapkmhaa", sum := "4dfc5241fa93b7b773c65e9f468f697bbf35a17e951262e5a1a924e0b02de488", func := "revetment/revetmentlaw20.SlotsKinds", spec := "slotsKinds", unfollowed := true, recurses := true, apart := false }
def SlotsKindsSaid : Prop := slotsKindsRow.holds Try.pinned (OpenSpec.ofChange slotsKindsSpec)

/-- ITS FALSE NEIGHBOUR: 'it returns false'. Refute it at one input. -/
def slotsKindsWrong : ChangeSpec := { name := "slotsKinds", fn := fun _ => fun
  | [d1, d2] => { results := [.lit (.bool false)], args := [d1, d2] }
  | _ => none }
def SlotsKindsWrongFalsely : Prop := slotsKindsRow.holds Try.pinned (OpenSpec.ofChange slotsKindsWrong)

/-- 'revetmentlaw04.ZoneReads': WHATEVER THE INPUT: true; the input reads as it did. -/
def zoneReadsSpec : ChangeSpec := { name := "zoneReads", fn := fun _ => fun
  | [d1, d2, d3, d4] => { results := [.lit (.bool true)], args := [d1, d2, d3, d4] }
  | _ => none }
def zoneReadsRow : OpenClaim := { program := "ytimpefahapkmhaa", sum := "4dfc5241fa93b7b773c65e9f468f697bbf35a17e951262e5a1a924e0b02de488", func := "revetment/revetmentlaw04.ZoneReads", spec := "zoneReads", apart := false }
def ZoneReadsSaid : Prop := zoneReadsRow.holds Try.pinned (OpenSpec.ofChange zoneReadsSpec)

/-- ITS FALSE NEIGHBOUR: 'it returns false'. Refute it at one input. -/
def zoneReadsWrong : ChangeSpec := { name := "zoneReads", fn := fun _ => fun
  | [d1, d2, d3, d4] => { results := [.lit (.bool false)], args := [d1, d2, d3, d4] }
  | _ => none }
def ZoneReadsWrongFalsely : Prop := zoneReadsRow.holds Try.pinned (OpenSpec.ofChange zoneReadsWrong)

/- THE SECOND FORM. 'bulk': how many values and letters a reading holds, each counted each time it is reached (what is shared counts as often as it is met; a slice's spare places count too). A statement '..UptoSaid' is the law's where the arguments, and the package variables that the reading takes, are together of bulk at most 1048576: NARROWER than '..Said'. Prove '..Said' where nothing that the law and all that it calls make is longer than what came in: it says more and counts as full. Else prove '..UptoSaid'. A law counts once. -/
mutual
def uptoBulk {H : Type} : DataW H → Nat
  | .lit (.string bytes) => bytes.length + 1
  | .lit _ => 1
  | .nil => 1
  | .ptr d => uptoBulk d + 1
  | .slice elems spare => uptoBulkAll elems + uptoBulkAll spare + 1
  | .agg parts => uptoBulkAll parts + 1
  | .iface _ d => uptoBulk d + 1
  | .map entries => uptoBulkEntries entries + 1
  | .held _ => 1
def uptoBulkAll {H : Type} : List (DataW H) → Nat
  | [] => 0
  | d :: r => uptoBulk d + uptoBulkAll r
def uptoBulkEntries {H : Type} : List (Lit × DataW H) → Nat
  | [] => 0
  | x :: r => uptoBulkEntry x + uptoBulkEntries r
def uptoBulkEntry {H : Type} : Lit × DataW H → Nat
  | (.string bytes, d) => bytes.length + uptoBulk d + 1
  | (_, d) => uptoBulk d + 1
 end
def uptoSmall : (H : Type) → List (DataW H) → Bool := fun _ ds => decide (uptoBulkAll ds ≤ 1048576)
def OpenSpec.upto (s : _root_.Go.ChangeSpec) : _root_.Go.OpenSpec := { _root_.Go.OpenSpec.ofChange s with cond := some uptoSmall }

/-- 'revetmentlaw02.CrcSums', WHERE WHAT IT READS IS OF BULK AT MOST 1048576: true; the input reads as it did. -/
def crcSumsUptoRow : OpenClaim := { program := "ytimpefahapkmhaa", sum := "4dfc5241fa93b7b773c65e9f468f697bbf35a17e951262e5a1a924e0b02de488", func := "revetment/revetmentlaw02.CrcSums", spec := "crcSums", apart := false, narrowed := true }
def CrcSumsUptoSaid : Prop := crcSumsUptoRow.holds Try.pinned (OpenSpec.upto crcSumsSpec)

/-- 'revetmentlaw02.CrcParts', WHERE WHAT IT READS IS OF BULK AT MOST 1048576: true; the input reads as it did. -/
def crcPartsUptoRow : OpenClaim := { program := "ytimpefahapkmhaa", sum := "4dfc5241fa93b7b773c65e9f468f697bbf35a17e951262e5a1a924e0b02de488", func := "revetment/revetmentlaw02.CrcParts", spec := "crcParts", apart := false, narrowed := true }
def CrcPartsUptoSaid : Prop := crcPartsUptoRow.holds Try.pinned (OpenSpec.upto crcPartsSpec)

/-- 'revetmentlaw03.XorLacks', WHERE WHAT IT READS IS OF BULK AT MOST 1048576: true; the input reads as it did. -/
def xorLacksUptoRow : OpenClaim := { program := "ytimpefahapkmhaa", sum := "4dfc5241fa93b7b773c65e9f468f697bbf35a17e951262e5a1a924e0b02de488", func := "revetment/revetmentlaw03.XorLacks", spec := "xorLacks", apart := false, narrowed := true }
def XorLacksUptoSaid : Prop := xorLacksUptoRow.holds Try.pinned (OpenSpec.upto xorLacksSpec)

/-- 'revetmentlaw01.PackPuts', WHERE WHAT IT READS IS OF BULK AT MOST 1048576: true; the input reads as it did. -/
def packPutsUptoRow : OpenClaim := { program := "ytimpefahapkmhaa", sum := "4dfc5241fa93b7b773c65e9f468f697bbf35a17e951262e5a1a924e0b02de488", func := "revetment/revetmentlaw01.PackPuts", spec := "packPuts", apart := false, narrowed := true }
def PackPutsUptoSaid : Prop := packPutsUptoRow.holds Try.pinned (OpenSpec.upto packPutsSpec)

/-- 'revetmentlaw03.XorOfs', WHERE WHAT IT READS IS OF BULK AT MOST 1048576: true; the input reads as it did. -/
def xorOfsUptoRow : OpenClaim := { program := "ytimpefahapkmhaa", sum := "4dfc5241fa93b7b773c65e9f468f697bbf35a17e951262e5a1a924e0b02de488", func := "revetment/revetmentlaw03.XorOfs", spec := "xorOfs", unfollowed := true, recurses := true, apart := false, narrowed := true }
def XorOfsUptoSaid : Prop := xorOfsUptoRow.holds Try.pinned (OpenSpec.upto xorOfsSpec)

/-- 'revetmentlaw40.WearOrders', WHERE WHAT IT READS IS OF BULK AT MOST 1048576: true; the input reads as it did. -/
def wearOrdersUptoRow : OpenClaim := { program := "ytimpefahapkmhaa", sum := "4dfc5241fa93b7b773c65e9f468f697bbf35a17e951262e5a1a924e0b02de488", func := "revetment/revetmentlaw40.WearOrders", spec := "wearOrders", apart := false, narrowed := true }
def WearOrdersUptoSaid : Prop := wearOrdersUptoRow.holds Try.pinned (OpenSpec.upto wearOrdersSpec)

/-- 'revetmentlaw07.ConfChecks', WHERE WHAT IT READS IS OF BULK AT MOST 1048576: true; the input reads as it did. -/
def confChecksUptoRow : OpenClaim := { program := "ytimpefahapkmhaa", sum := "4dfc5241fa93b7b773c65e9f468f697bbf35a17e951262e5a1a924e0b02de488", func := "revetment/revetmentlaw07.ConfChecks", spec := "confChecks", unfollowed := true, recurses := true, apart := false, narrowed := true }
def ConfChecksUptoSaid : Prop := confChecksUptoRow.holds Try.pinned (OpenSpec.upto confChecksSpec)

/-- 'revetmentlaw40.WearEven', WHERE WHAT IT READS IS OF BULK AT MOST 1048576: true; the input reads as it did. -/
def wearEvenUptoRow : OpenClaim := { program := "ytimpefahapkmhaa", sum := "4dfc5241fa93b7b773c65e9f468f697bbf35a17e951262e5a1a924e0b02de488", func := "revetment/revetmentlaw40.WearEven", spec := "wearEven", apart := false, narrowed := true }
def WearEvenUptoSaid : Prop := wearEvenUptoRow.holds Try.pinned (OpenSpec.upto wearEvenSpec)

/-- 'revetmentlaw19.BitmapAnds', WHERE WHAT IT READS IS OF BULK AT MOST 1048576: true; the input reads as it did. -/
def bitmapAndsUptoRow : OpenClaim := { program := "ytimpefahapkmhaa", sum := "4dfc5241fa93b7b773c65e9f468f697bbf35a17e951262e5a1a924e0b02de488", func := "revetment/revetmentlaw19.BitmapAnds", spec := "bitmapAnds", apart := false, narrowed := true }
def BitmapAndsUptoSaid : Prop := bitmapAndsUptoRow.holds Try.pinned (OpenSpec.upto bitmapAndsSpec)

/-- 'revetmentlaw19.BitmapFills', WHERE WHAT IT READS IS OF BULK AT MOST 1048576: true; the input reads as it did. -/
def bitmapFillsUptoRow : OpenClaim := { program := "ytimpefahapkmhaa", sum := "4dfc5241fa93b7b773c65e9f468f697bbf35a17e951262e5a1a924e0b02de488", func := "revetment/revetmentlaw19.BitmapFills", spec := "bitmapFills", apart := false, narrowed := true }
def BitmapFillsUptoSaid : Prop := bitmapFillsUptoRow.holds Try.pinned (OpenSpec.upto bitmapFillsSpec)

/-- 'revetmentlaw20.SlotsKinds', WHERE WHAT IT READS IS OF BULK AT MOST 1048576: true; the input reads as it did. -/
def slotsKindsUptoRow : OpenClaim := { program := "ytimpefahapkmhaa", sum := "4dfc5241fa93b7b773c65e9f468f697bbf35a17e951262e5a1a924e0b02de488", func := "revetment/revetmentlaw20.SlotsKinds", spec := "slotsKinds", unfollowed := true, recurses := true, apart := false, narrowed := true }
def SlotsKindsUptoSaid : Prop := slotsKindsUptoRow.holds Try.pinned (OpenSpec.upto slotsKindsSpec)

/-- 'revetmentlaw04.ZoneReads', WHERE WHAT IT READS IS OF BULK AT MOST 1048576: true; the input reads as it did. -/
def zoneReadsUptoRow : OpenClaim := { program := "ytimpefahapkmhaa", sum := "4dfc5241fa93b7b773c65e9f468f697bbf35a17e951262e5a1a924e0b02de488", func := "revetment/revetmentlaw04.ZoneReads", spec := "zoneReads", apart := false, narrowed := true }
def ZoneReadsUptoSaid : Prop := zoneReadsUptoRow.holds Try.pinned (OpenSpec.upto zoneReadsSpec)

end Rows
end Go.Proofs.Ytimpefahapkmhaa
