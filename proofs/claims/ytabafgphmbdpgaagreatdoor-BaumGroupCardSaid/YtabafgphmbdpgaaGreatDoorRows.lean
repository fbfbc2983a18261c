/-
  NARROWER THAN 'FOR EVERY INPUT', by the rows' own cells (each row's printed sentence says how): BaumTraces: laid · BaumInner: laid · BaumSame: laid · BaumRelators: laid · BaumTowers: laid · BaumChecks: laid · BaumReplays: laid · BaumOrders: laid · BaumMuls: loops, laid · BaumGroup: loops, laid.
  DERIVED. THE GIVEN ROWS OF THIS SEAT. 10 by the template 'for every input the law returns true; each argument reads behind the call as it read before'; 0 by the template 'total and deterministic' (their statements: YtabafgphmbdpgaaGreatDoorTotals.lean).
  GIVEN WITH THE SEED: the statements are not yours to turn. If you find one false, say at which input.
  Laid BY PROGRAM, IN A SANDBOX (cutbox-rows.mjs): the forced cells as the released guide's own fill.sh prints them over the translation 49f3efaa1ceba681… (all of the seat's roots in one cut). By AI agents, Wed Nov 11 2026. No macro, syntax, notation, axiom, sorry.
-/
import Derived.Test.YtabafgphmbdpgaaGreatDoorChecked
import GoSem.PinnedTables
import GoSem.Claim
import GoSem.ClaimJoined
import GoSem.ClaimMapViews
import Derived.JoinedTies
import Derived.KernelRfl
namespace Go.Proofs.YtabafgphmbdpgaaGreatDoor
/- THE CELL 'sum', in the pinned program and in every row, IS THE sha256 OF THE DUMP (.gsa) THAT YtabafgphmbdpgaaGreatDoorProg.lean LOADS. Nothing in Lean hashes anything: it is a label: what it is worth is what the hold of that sum in a sandbox is worth. -/
noncomputable def Tryz.pinned : Pinned := { name := "ytabafgphmbdpgaagreatdoor", sum := "49f3efaa1ceba681f732d1a3481907533044dbc282acd2aaaae73823148b3a10", checked := Tryz.checked }
namespace Rows
def none {H : Type} : Left H := { results := [], args := [] }

/- WHAT THE LISTED PACKAGE-LEVEL VARIABLES READ AS WHEN THE CALL BEGINS. Each datum BY PROGRAM (the guide's laid-datum.mjs) off the statement by which the dump's own 'gosem.cut.vars' lays the variable. In a bare row this is a premise. The card (YtabafgphmbdpgaaGreatDoorCards.lean) ties it to the program's text. -/
def laid_unicode_utf8_acceptRanges {H : Type} : DataW H := .agg [.agg [.lit (.int .u8 128), .lit (.int .u8 191)], .agg [.lit (.int .u8 160), .lit (.int .u8 191)], .agg [.lit (.int .u8 128), .lit (.int .u8 159)], .agg [.lit (.int .u8 144), .lit (.int .u8 191)], .agg [.lit (.int .u8 128), .lit (.int .u8 143)], .agg [.lit (.int .u8 0), .lit (.int .u8 0)], .agg [.lit (.int .u8 0), .lit (.int .u8 0)], .agg [.lit (.int .u8 0), .lit (.int .u8 0)], .agg [.lit (.int .u8 0), .lit (.int .u8 0)], .agg [.lit (.int .u8 0), .lit (.int .u8 0)], .agg [.lit (.int .u8 0), .lit (.int .u8 0)], .agg [.lit (.int .u8 0), .lit (.int .u8 0)], .agg [.lit (.int .u8 0), .lit (.int .u8 0)], .agg [.lit (.int .u8 0), .lit (.int .u8 0)], .agg [.lit (.int .u8 0), .lit (.int .u8 0)], .agg [.lit (.int .u8 0), .lit (.int .u8 0)]]
/-- One of Go's own tables, pinned by name: the form's constant. -/
def laid_unicode_utf8_first : DataW Unit := Go.Pinned.utf8First

/-- 'sandreckonerlaw05.BaumTraces': WHATEVER THE INPUT: true; the input reads as it did. -/
def baumTracesSpec : ChangeSpec := { name := "baumTraces", fn := fun _ => fun
  | [d] => { results := [.lit (.bool true)], args := [d] }
  | _ => none }
def baumTracesRow : OpenClaim := { program := "ytabafgphmbdpgaagreatdoor", sum := "49f3efaa1ceba681f732d1a3481907533044dbc282acd2aaaae73823148b3a10", func := "sandreckoner/sandreckonerlaw05.BaumTraces", spec := "baumTraces", inPlace := ["internal/bytealg.IndexByteString", "internal/bytealg.IndexString"], unfollowed := true, recurses := true, named := ["unicode/utf8.first", "unicode/utf8.acceptRanges", "internal/bytealg.MaxLen"], plainKeys := false, apart := false, laid := [("unicode/utf8.acceptRanges", laid_unicode_utf8_acceptRanges), ("unicode/utf8.first", laid_unicode_utf8_first)] }
def BaumTracesSaid : Prop := baumTracesRow.holds Tryz.pinned (OpenSpec.ofChange baumTracesSpec)

/-- ITS FALSE NEIGHBOUR: 'it returns false'. Refute it at one input. -/
def baumTracesWrong : ChangeSpec := { name := "baumTraces", fn := fun _ => fun
  | [d] => { results := [.lit (.bool false)], args := [d] }
  | _ => none }
def BaumTracesWrongFalsely : Prop := baumTracesRow.holds Tryz.pinned (OpenSpec.ofChange baumTracesWrong)

/-- 'sandreckonerlaw05.BaumInner': WHATEVER THE INPUT: true; the input reads as it did. -/
def baumInnerSpec : ChangeSpec := { name := "baumInner", fn := fun _ => fun
  | [d] => { results := [.lit (.bool true)], args := [d] }
  | _ => none }
def baumInnerRow : OpenClaim := { program := "ytabafgphmbdpgaagreatdoor", sum := "49f3efaa1ceba681f732d1a3481907533044dbc282acd2aaaae73823148b3a10", func := "sandreckoner/sandreckonerlaw05.BaumInner", spec := "baumInner", inPlace := ["internal/bytealg.IndexByteString", "internal/bytealg.IndexString"], unfollowed := true, recurses := true, named := ["unicode/utf8.first", "unicode/utf8.acceptRanges", "internal/bytealg.MaxLen"], plainKeys := false, apart := false, laid := [("unicode/utf8.acceptRanges", laid_unicode_utf8_acceptRanges), ("unicode/utf8.first", laid_unicode_utf8_first)] }
def BaumInnerSaid : Prop := baumInnerRow.holds Tryz.pinned (OpenSpec.ofChange baumInnerSpec)

/-- ITS FALSE NEIGHBOUR: 'it returns false'. Refute it at one input. -/
def baumInnerWrong : ChangeSpec := { name := "baumInner", fn := fun _ => fun
  | [d] => { results := [.lit (.bool false)], args := [d] }
  | _ => none }
def BaumInnerWrongFalsely : Prop := baumInnerRow.holds Tryz.pinned (OpenSpec.ofChange baumInnerWrong)

/-- 'sandreckonerlaw05.BaumSame': WHATEVER THE INPUT: true; the input reads as it did. -/
def baumSameSpec : ChangeSpec := { name := "baumSame", fn := fun _ => fun
  | [d1, d2] => { results := [.lit (.bool true)], args := [d1, d2] }
  | _ => none }
def baumSameRow : OpenClaim := { program := "ytabafgphmbdpgaagreatdoor", sum := "49f3efaa1ceba681f732d1a3481907533044dbc282acd2aaaae73823148b3a10", func := "sandreckoner/sandreckonerlaw05.BaumSame", spec := "baumSame", inPlace := ["internal/bytealg.IndexByteString", "internal/bytealg.IndexString"], unfollowed := true, recurses := true, named := ["unicode/utf8.first", "unicode/utf8.acceptRanges", "internal/bytealg.MaxLen"], plainKeys := false, apart := false, laid := [("unicode/utf8.acceptRanges", laid_unicode_utf8_acceptRanges), ("unicode/utf8.first", laid_unicode_utf8_first)] }
def BaumSameSaid : Prop := baumSameRow.holds Tryz.pinned (OpenSpec.ofChange baumSameSpec)

/-- ITS FALSE NEIGHBOUR: 'it returns false'. Refute it at one input. -/
def baumSameWrong : ChangeSpec := { name := "baumSame", fn := fun _ => fun
  | [d1, d2] => { results := [.lit (.bool false)], args := [d1, d2] }
  | _ => none }
def BaumSameWrongFalsely : Prop := baumSameRow.holds Tryz.pinned (OpenSpec.ofChange baumSameWrong)

/-- 'sandreckonerlaw05.BaumRelators': WHATEVER THE INPUT: true; the input reads as it did. -/
def baumRelatorsSpec : ChangeSpec := { name := "baumRelators", fn := fun _ => fun
  | [d1, d2, d3] => { results := [.lit (.bool true)], args := [d1, d2, d3] }
  | _ => none }
def baumRelatorsRow : OpenClaim := { program := "ytabafgphmbdpgaagreatdoor", sum := "49f3efaa1ceba681f732d1a3481907533044dbc282acd2aaaae73823148b3a10", func := "sandreckoner/sandreckonerlaw05.BaumRelators", spec := "baumRelators", inPlace := ["internal/bytealg.IndexByteString", "internal/bytealg.IndexString"], unfollowed := true, recurses := true, named := ["unicode/utf8.first", "unicode/utf8.acceptRanges", "internal/bytealg.MaxLen"], plainKeys := false, apart := false, laid := [("unicode/utf8.acceptRanges", laid_unicode_utf8_acceptRanges), ("unicode/utf8.first", laid_unicode_utf8_first)] }
def BaumRelatorsSaid : Prop := baumRelatorsRow.holds Tryz.pinned (OpenSpec.ofChange baumRelatorsSpec)

/-- ITS FALSE NEIGHBOUR: 'it returns false'. Refute it at one input. -/
def baumRelatorsWrong : ChangeSpec := { name := "baumRelators", fn := fun _ => fun
  | [d1, d2, d3] => { results := [.lit (.bool false)], args := [d1, d2, d3] }
  | _ => none }
def BaumRelatorsWrongFalsely : Prop := baumRelatorsRow.holds Tryz.pinned (OpenSpec.ofChange baumRelatorsWrong)

/-- 'sandreckonerlaw05.BaumTowers': WHATEVER THE INPUT: true; the input reads as it did. -/
def baumTowersSpec : ChangeSpec := { name := "baumTowers", fn := fun _ => fun
  | [d1, d2] => { results := [.lit (.bool true)], args := [d1, d2] }
  | _ => none }
def baumTowersRow : OpenClaim := { program := "ytabafgphmbdpgaagreatdoor", sum := "49f3efaa1ceba681f732d1a3481907533044dbc282acd2aaaae73823148b3a10", func := "sandreckoner/sandreckonerlaw05.BaumTowers", spec := "baumTowers", inPlace := ["internal/bytealg.IndexByteString", "internal/bytealg.IndexString"], unfollowed := true, recurses := true, named := ["unicode/utf8.first", "unicode/utf8.acceptRanges", "internal/bytealg.MaxLen"], plainKeys := false, apart := false, laid := [("unicode/utf8.acceptRanges", laid_unicode_utf8_acceptRanges), ("unicode/utf8.first", laid_unicode_utf8_first)] }
def BaumTowersSaid : Prop := baumTowersRow.holds Tryz.pinned (OpenSpec.ofChange baumTowersSpec)

/-- ITS FALSE NEIGHBOUR: 'it returns false'. Refute it at one input. -/
def baumTowersWrong : ChangeSpec := { name := "baumTowers", fn := fun _ => fun
  | [d1, d2] => { results := [.lit (.bool false)], args := [d1, d2] }
  | _ => none }
def BaumTowersWrongFalsely : Prop := baumTowersRow.holds Tryz.pinned (OpenSpec.ofChange baumTowersWrong)

/-- 'sandreckonerlaw05.BaumChecks': WHATEVER THE INPUT: true; the input reads as it did. -/
def baumChecksSpec : ChangeSpec := { name := "baumChecks", fn := fun _ => fun
  | [d1, d2] => { results := [.lit (.bool true)], args := [d1, d2] }
  | _ => none }
def baumChecksRow : OpenClaim := { program := "ytabafgphmbdpgaagreatdoor", sum := "49f3efaa1ceba681f732d1a3481907533044dbc282acd2aaaae73823148b3a10", func := "sandreckoner/sandreckonerlaw05.BaumChecks", spec := "baumChecks", inPlace := ["internal/bytealg.IndexByteString", "internal/bytealg.IndexString"], unfollowed := true, recurses := true, named := ["unicode/utf8.first", "unicode/utf8.acceptRanges", "internal/bytealg.MaxLen"], plainKeys := false, apart := false, laid := [("unicode/utf8.acceptRanges", laid_unicode_utf8_acceptRanges), ("unicode/utf8.first", laid_unicode_utf8_first)] }
def BaumChecksSaid : Prop := baumChecksRow.holds Tryz.pinned (OpenSpec.ofChange baumChecksSpec)

/-- ITS FALSE NEIGHBOUR: 'it returns false'. Refute it at one input. -/
def baumChecksWrong : ChangeSpec := { name := "baumChecks", fn := fun _ => fun
  | [d1, d2] => { results := [.lit (.bool false)], args := [d1, d2] }
  | _ => none }
def BaumChecksWrongFalsely : Prop := baumChecksRow.holds Tryz.pinned (OpenSpec.ofChange baumChecksWrong)

/-- 'sandreckonerlaw05.BaumReplays': WHATEVER THE INPUT: true; the input reads as it did. -/
def baumReplaysSpec : ChangeSpec := { name := "baumReplays", fn := fun _ => fun
  | [d1, d2] => { results := [.lit (.bool true)], args := [d1, d2] }
  | _ => none }
def baumReplaysRow : OpenClaim := { program := "ytabafgphmbdpgaagreatdoor", sum := "49f3efaa1ceba681f732d1a3481907533044dbc282acd2aaaae73823148b3a10", func := "sandreckoner/sandreckonerlaw05.BaumReplays", spec := "baumReplays", inPlace := ["internal/bytealg.IndexByteString", "internal/bytealg.IndexString"], unfollowed := true, recurses := true, named := ["unicode/utf8.first", "unicode/utf8.acceptRanges", "internal/bytealg.MaxLen"], plainKeys := false, apart := false, laid := [("unicode/utf8.acceptRanges", laid_unicode_utf8_acceptRanges), ("unicode/utf8.first", laid_unicode_utf8_first)] }
def BaumReplaysSaid : Prop := baumReplaysRow.holds Tryz.pinned (OpenSpec.ofChange baumReplaysSpec)

/-- ITS FALSE NEIGHBOUR: 'it returns false'. Refute it at one input. -/
def baumReplaysWrong : ChangeSpec := { name := "baumReplays", fn := fun _ => fun
  | [d1, d2] => { results := [.lit (.bool false)], args := [d1, d2] }
  | _ => none }
def BaumReplaysWrongFalsely : Prop := baumReplaysRow.holds Tryz.pinned (OpenSpec.ofChange baumReplaysWrong)

/-- 'sandreckonerlaw05.BaumOrders': WHATEVER THE INPUT: true; the input reads as it did. -/
def baumOrdersSpec : ChangeSpec := { name := "baumOrders", fn := fun _ => fun
  | [d1, d2] => { results := [.lit (.bool true)], args := [d1, d2] }
  | _ => none }
def baumOrdersRow : OpenClaim := { program := "ytabafgphmbdpgaagreatdoor", sum := "49f3efaa1ceba681f732d1a3481907533044dbc282acd2aaaae73823148b3a10", func := "sandreckoner/sandreckonerlaw05.BaumOrders", spec := "baumOrders", inPlace := ["internal/bytealg.IndexByteString", "internal/bytealg.IndexString"], unfollowed := true, recurses := true, named := ["unicode/utf8.first", "unicode/utf8.acceptRanges", "internal/bytealg.MaxLen"], plainKeys := false, apart := false, laid := [("unicode/utf8.acceptRanges", laid_unicode_utf8_acceptRanges), ("unicode/utf8.first", laid_unicode_utf8_first)] }
def BaumOrdersSaid : Prop := baumOrdersRow.holds Tryz.pinned (OpenSpec.ofChange baumOrdersSpec)

/-- ITS FALSE NEIGHBOUR: 'it returns false'. Refute it at one input. -/
def baumOrdersWrong : ChangeSpec := { name := "baumOrders", fn := fun _ => fun
  | [d1, d2] => { results := [.lit (.bool false)], args := [d1, d2] }
  | _ => none }
def BaumOrdersWrongFalsely : Prop := baumOrdersRow.holds Tryz.pinned (OpenSpec.ofChange baumOrdersWrong)

/-- 'sandreckonerlaw05.BaumMuls': WHATEVER THE INPUT: true; the input reads as it did. -/
def baumMulsSpec : ChangeSpec := { name := "baumMuls", fn := fun _ => fun
  | [d1, d2] => { results := [.lit (.bool true)], args := [d1, d2] }
  | _ => none }
def baumMulsRow : OpenClaim := { program := "ytabafgphmbdpgaagreatdoor", sum := "49f3efaa1ceba681f732d1a3481907533044dbc282acd2aaaae73823148b3a10", func := "sandreckoner/sandreckonerlaw05.BaumMuls", spec := "baumMuls", inPlace := ["internal/bytealg.IndexByteString", "internal/bytealg.IndexString"], unfollowed := true, recurses := true, named := ["unicode/utf8.first", "unicode/utf8.acceptRanges", "internal/bytealg.MaxLen"], loops := true, plainKeys := false, apart := false, laid := [("unicode/utf8.acceptRanges", laid_unicode_utf8_acceptRanges), ("unicode/utf8.first", laid_unicode_utf8_first)] }
def BaumMulsSaid : Prop := baumMulsRow.holds Tryz.pinned (OpenSpec.ofChange baumMulsSpec)

/-- ITS FALSE NEIGHBOUR: 'it returns false'. Refute it at one input. -/
def baumMulsWrong : ChangeSpec := { name := "baumMuls", fn := fun _ => fun
  | [d1, d2] => { results := [.lit (.bool false)], args := [d1, d2] }
  | _ => none }
def BaumMulsWrongFalsely : Prop := baumMulsRow.holds Tryz.pinned (OpenSpec.ofChange baumMulsWrong)

/-- 'sandreckonerlaw05.BaumGroup': WHATEVER THE INPUT: true; the input reads as it did. -/
def baumGroupSpec : ChangeSpec := { name := "baumGroup", fn := fun _ => fun
  | [d1, d2, d3] => { results := [.lit (.bool true)], args := [d1, d2, d3] }
  | _ => none }
def baumGroupRow : OpenClaim := { program := "ytabafgphmbdpgaagreatdoor", sum := "49f3efaa1ceba681f732d1a3481907533044dbc282acd2aaaae73823148b3a10", func := "sandreckoner/sandreckonerlaw05.BaumGroup", spec := "baumGroup", inPlace := ["internal/bytealg.IndexByteString", "internal/bytealg.IndexString"], unfollowed := true, recurses := true, named := ["unicode/utf8.first", "unicode/utf8.acceptRanges", "internal/bytealg.MaxLen"], loops := true, plainKeys := false, apart := false, laid := [("unicode/utf8.acceptRanges", laid_unicode_utf8_acceptRanges), ("unicode/utf8.first", laid_unicode_utf8_first)] }
def BaumGroupSaid : Prop := baumGroupRow.holds Tryz.pinned (OpenSpec.ofChange baumGroupSpec)

/-- ITS FALSE NEIGHBOUR: 'it returns false'. Refute it at one input. -/
def baumGroupWrong : ChangeSpec := { name := "baumGroup", fn := fun _ => fun
  | [d1, d2, d3] => { results := [.lit (.bool false)], args := [d1, d2, d3] }
  | _ => none }
def BaumGroupWrongFalsely : Prop := baumGroupRow.holds Tryz.pinned (OpenSpec.ofChange baumGroupWrong)

/- THE SECOND FORM. 'bulk': how many values and letters a reading holds, each counted each time it is reached (what is shared counts as often as it is met; a slice's spare places count too). A statement '..UptoSaid' is the law's where the arguments, and the package variables that the reading takes, are together of bulk at most 1048576: NARROWER than '..Said'. Prove '..Said' where nothing that the law and all that it calls make is longer than what came in: it says more and counts as full. Else prove '..UptoSaid'. A law counts once. -/
mutual
def uptoBulk {H : Type} : DataW H → Nat
  | .lit (.string bytes) => bytes.length + 1
  | .lit _ => 1
  | .nil => 1
  | .ptr d => uptoBulk d + 1
  | .slice elems spare => uptoBulkAll elems + uptoBulkAll spare + 1
  | .agg parts => uptoBulkAll parts + 1
  | .iface _ d => uptoBulk d + 1
  | .map entries => uptoBulkEntries entries + 1
  | .held _ => 1
def uptoBulkAll {H : Type} : List (DataW H) → Nat
  | [] => 0
  | d :: r => uptoBulk d + uptoBulkAll r
def uptoBulkEntries {H : Type} : List (Lit × DataW H) → Nat
  | [] => 0
  | x :: r => uptoBulkEntry x + uptoBulkEntries r
def uptoBulkEntry {H : Type} : Lit × DataW H → Nat
  | (.string bytes, d) => bytes.length + uptoBulk d + 1
  | (_, d) => uptoBulk d + 1
 end
def uptoSmall : (H : Type) → List (DataW H) → Bool := fun _ ds => decide (uptoBulkAll ds ≤ 1048576)
def OpenSpec.upto (s : _root_.Go.ChangeSpec) : _root_.Go.OpenSpec := { _root_.Go.OpenSpec.ofChange s with cond := some uptoSmall }

/-- 'sandreckonerlaw05.BaumTraces', WHERE WHAT IT READS IS OF BULK AT MOST 1048576: true; the input reads as it did. -/
def baumTracesUptoRow : OpenClaim := { program := "ytabafgphmbdpgaagreatdoor", sum := "49f3efaa1ceba681f732d1a3481907533044dbc282acd2aaaae73823148b3a10", func := "sandreckoner/sandreckonerlaw05.BaumTraces", spec := "baumTraces", inPlace := ["internal/bytealg.IndexByteString", "internal/bytealg.IndexString"], unfollowed := true, recurses := true, named := ["unicode/utf8.first", "unicode/utf8.acceptRanges", "internal/bytealg.MaxLen"], plainKeys := false, apart := false, laid := [("unicode/utf8.acceptRanges", laid_unicode_utf8_acceptRanges), ("unicode/utf8.first", laid_unicode_utf8_first)], narrowed := true }
def BaumTracesUptoSaid : Prop := baumTracesUptoRow.holds Tryz.pinned (OpenSpec.upto baumTracesSpec)

/-- 'sandreckonerlaw05.BaumInner', WHERE WHAT IT READS IS OF BULK AT MOST 1048576: true; the input reads as it did. -/
def baumInnerUptoRow : OpenClaim := { program := "ytabafgphmbdpgaagreatdoor", sum := "49f3efaa1ceba681f732d1a3481907533044dbc282acd2aaaae73823148b3a10", func := "sandreckoner/sandreckonerlaw05.BaumInner", spec := "baumInner", inPlace := ["internal/bytealg.IndexByteString", "internal/bytealg.IndexString"], unfollowed := true, recurses := true, named := ["unicode/utf8.first", "unicode/utf8.acceptRanges", "internal/bytealg.MaxLen"], plainKeys := false, apart := false, laid := [("unicode/utf8.acceptRanges", laid_unicode_utf8_acceptRanges), ("unicode/utf8.first", laid_unicode_utf8_first)], narrowed := true }
def BaumInnerUptoSaid : Prop := baumInnerUptoRow.holds Tryz.pinned (OpenSpec.upto baumInnerSpec)

/-- 'sandreckonerlaw05.BaumSame', WHERE WHAT IT READS IS OF BULK AT MOST 1048576: true; the input reads as it did. -/
def baumSameUptoRow : OpenClaim := { program := "ytabafgphmbdpgaagreatdoor", sum := "49f3efaa1ceba681f732d1a3481907533044dbc282acd2aaaae73823148b3a10", func := "sandreckoner/sandreckonerlaw05.BaumSame", spec := "baumSame", inPlace := ["internal/bytealg.IndexByteString", "internal/bytealg.IndexString"], unfollowed := true, recurses := true, named := ["unicode/utf8.first", "unicode/utf8.acceptRanges", "internal/bytealg.MaxLen"], plainKeys := false, apart := false, laid := [("unicode/utf8.acceptRanges", laid_unicode_utf8_acceptRanges), ("unicode/utf8.first", laid_unicode_utf8_first)], narrowed := true }
def BaumSameUptoSaid : Prop := baumSameUptoRow.holds Tryz.pinned (OpenSpec.upto baumSameSpec)

/-- 'sandreckonerlaw05.BaumRelators', WHERE WHAT IT READS IS OF BULK AT MOST 1048576: true; the input reads as it did. -/
def baumRelatorsUptoRow : OpenClaim := { program := "ytabafgphmbdpgaagreatdoor", sum := "49f3efaa1ceba681f732d1a3481907533044dbc282acd2aaaae73823148b3a10", func := "sandreckoner/sandreckonerlaw05.BaumRelators", spec := "baumRelators", inPlace := ["internal/bytealg.IndexByteString", "internal/bytealg.IndexString"], unfollowed := true, recurses := true, named := ["unicode/utf8.first", "unicode/utf8.acceptRanges", "internal/bytealg.MaxLen"], plainKeys := false, apart := false, laid := [("unicode/utf8.acceptRanges", laid_unicode_utf8_acceptRanges), ("unicode/utf8.first", laid_unicode_utf8_first)], narrowed := true }
def BaumRelatorsUptoSaid : Prop := baumRelatorsUptoRow.holds Tryz.pinned (OpenSpec.upto baumRelatorsSpec)

/-- 'sandreckonerlaw05.BaumTowers', WHERE WHAT IT READS IS OF BULK AT MOST 1048576: true; the input reads as it did. -/
def baumTowersUptoRow : OpenClaim := { program := "ytabafgphmbdpgaagreatdoor", sum := "49f3efaa1ceba681f732d1a3481907533044dbc282acd2aaaae73823148b3a10", func := "sandreckoner/sandreckonerlaw05.BaumTowers", spec := "baumTowers", inPlace := ["internal/bytealg.IndexByteString", "internal/bytealg.IndexString"], unfollowed := true, recurses := true, named := ["unicode/utf8.first", "unicode/utf8.acceptRanges", "internal/bytealg.MaxLen"], plainKeys := false, apart := false, laid := [("unicode/utf8.acceptRanges", laid_unicode_utf8_acceptRanges), ("unicode/utf8.first", laid_unicode_utf8_first)], narrowed := true }
def BaumTowersUptoSaid : Prop := baumTowersUptoRow.holds Tryz.pinned (OpenSpec.upto baumTowersSpec)

/-- 'sandreckonerlaw05.BaumChecks', WHERE WHAT IT READS IS OF BULK AT MOST 1048576: true; the input reads as it did. -/
def baumChecksUptoRow : OpenClaim := { program := "ytabafgphmbdpgaagreatdoor", sum := "49f3efaa1ceba681f732d1a3481907533044dbc282acd2aaaae73823148b3a10", func := "sandreckoner/sandreckonerlaw05.BaumChecks", spec := "baumChecks", inPlace := ["internal/bytealg.IndexByteString", "internal/bytealg.IndexString"], unfollowed := true, recurses := true, named := ["unicode/utf8.first", "unicode/utf8.acceptRanges", "internal/bytealg.MaxLen"], plainKeys := false, apart := false, laid := [("unicode/utf8.acceptRanges", laid_unicode_utf8_acceptRanges), ("unicode/utf8.first", laid_unicode_utf8_first)], narrowed := true }
def BaumChecksUptoSaid : Prop := baumChecksUptoRow.holds Tryz.pinned (OpenSpec.upto baumChecksSpec)

/-- 'sandreckonerlaw05.BaumReplays', WHERE WHAT IT READS IS OF BULK AT MOST 1048576: true; the input reads as it did. -/
def baumReplaysUptoRow : OpenClaim := { program := "ytabafgphmbdpgaagreatdoor", sum := "49f3efaa1ceba681f732d1a3481907533044dbc282acd2aaaae73823148b3a10", func := "sandreckoner/sandreckonerlaw05.BaumReplays", spec := "baumReplays", inPlace := ["internal/bytealg.IndexByteString", "internal/bytealg.IndexString"], unfollowed := true, recurses := true, named := ["unicode/utf8.first", "unicode/utf8.acceptRanges", "internal/bytealg.MaxLen"], plainKeys := false, apart := false, laid := [("unicode/utf8.acceptRanges", laid_unicode_utf8_acceptRanges), ("unicode/utf8.first", laid_unicode_utf8_first)], narrowed := true }
def BaumReplaysUptoSaid : Prop := baumReplaysUptoRow.holds Tryz.pinned (OpenSpec.upto baumReplaysSpec)

/-- 'sandreckonerlaw05.BaumOrders', WHERE WHAT IT READS IS OF BULK AT MOST 1048576: true; the input reads as it did. -/
def baumOrdersUptoRow : OpenClaim := { program := "ytabafgphmbdpgaagreatdoor", sum := "49f3efaa1ceba681f732d1a3481907533044dbc282acd2aaaae73823148b3a10", func := "sandreckoner/sandreckonerlaw05.BaumOrders", spec := "baumOrders", inPlace := ["internal/bytealg.IndexByteString", "internal/bytealg.IndexString"], unfollowed := true, recurses := true, named := ["unicode/utf8.first", "unicode/utf8.acceptRanges", "internal/bytealg.MaxLen"], plainKeys := false, apart := false, laid := [("unicode/utf8.acceptRanges", laid_unicode_utf8_acceptRanges), ("unicode/utf8.first", laid_unicode_utf8_first)], narrowed := true }
def BaumOrdersUptoSaid : Prop := baumOrdersUptoRow.holds Tryz.pinned (OpenSpec.upto baumOrdersSpec)

/-- 'sandreckonerlaw05.BaumMuls', WHERE WHAT IT READS IS OF BULK AT MOST 1048576: true; the input reads as it did. -/
def baumMulsUptoRow : OpenClaim := { program := "ytabafgphmbdpgaagreatdoor", sum := "49f3efaa1ceba681f732d1a3481907533044dbc282acd2aaaae73823148b3a10", func := "sandreckoner/sandreckonerlaw05.BaumMuls", spec := "baumMuls", inPlace := ["internal/bytealg.IndexByteString", "internal/bytealg.IndexString"], unfollowed := true, recurses := true, named := ["unicode/utf8.first", "unicode/utf8.acceptRanges", "internal/bytealg.MaxLen"], loops := true, plainKeys := false, apart := false, laid := [("unicode/utf8.acceptRanges", laid_unicode_utf8_acceptRanges), ("unicode/utf8.first", laid_unicode_utf8_first)], narrowed := true }
def BaumMulsUptoSaid : Prop := baumMulsUptoRow.holds Tryz.pinned (OpenSpec.upto baumMulsSpec)

/-- 'sandreckonerlaw05.BaumGroup', WHERE WHAT IT READS IS OF BULK AT MOST 1048576: true; the input reads as it did. -/
def baumGroupUptoRow : OpenClaim := { program := "ytabafgphmbdpgaagreatdoor", sum := "49f3efaa1ceba681f732d1a3481907533044dbc282acd2aaaae73823148b3a10", func := "sandreckoner/sandreckonerlaw05.BaumGroup", spec := "baumGroup", inPlace := ["internal/bytealg.IndexByteString", "internal/bytealg.IndexString"], unfollowed := true, recurses := true, named := ["unicode/utf8.first", "unicode/utf8.acceptRanges", "internal/bytealg.MaxLen"], loops := true, plainKeys := false, apart := false, laid := [("unicode/utf8.acceptRanges", laid_unicode_utf8_acceptRanges), ("unicode/utf8.first", laid_unicode_utf8_first)], narrowed := true }
def BaumGroupUptoSaid : Prop := baumGroupUptoRow.holds Tryz.pinned (OpenSpec.upto baumGroupSpec)

end Rows
end Go.Proofs.YtabafgphmbdpgaaGreatDoor
