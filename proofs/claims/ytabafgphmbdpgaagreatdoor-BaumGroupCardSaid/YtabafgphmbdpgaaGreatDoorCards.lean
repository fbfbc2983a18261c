/-
  DERIVED. GIVEN WITH THE SEED: THE CARDS: each row of YtabafgphmbdpgaaGreatDoorRows.lean that lists a variable, with what it lists TIED to the program's text (the seventh form; the later family's looks); each row that meets fmt, with fmt's text TOLD by the authors' own Lean function (tested against real Go, not proved from fmt's source: count such statements apart). THE CARD IS WHAT COUNTS. Prove the row's statement (the work); the ties are given (YtabafgphmbdpgaaGreatDoorTie.lean); close each card by the builder's one call (the guide's Derived/Test/ToyasCard.lean, 'card_holds'). Laid BY PROGRAM, IN A SANDBOX (cutbox-door.mjs). By AI agents, Wed Nov 11 2026. No macro, syntax, notation, axiom, sorry.
-/
import Derived.Test.YtabafgphmbdpgaaGreatDoorRows
import GoSem.ClaimSeven
namespace Go.Proofs.YtabafgphmbdpgaaGreatDoor
namespace Rows

/-- THE TIED CARD OF 'sandreckonerlaw05.BaumTraces'. -/
def baumTracesCard : Claim7 := { stood := { row := baumTracesRow, standIns := [], harness := (true, "7f4d983276a51e62fd98228e1381b39a856a12fd3055940d95fb63f6bf2f1df9"), looks := true }, kinds := [], alts := [], laidByText := true, laidKinds := [.data, .pinned], laidTests := true, laidLooks := .later }
def BaumTracesCardSaid : Prop := Claim7.holds Tryz.pinned (.plain (OpenSpec.ofChange baumTracesSpec)) baumTracesCard

/-- THE TIED CARD OF 'sandreckonerlaw05.BaumInner'. -/
def baumInnerCard : Claim7 := { stood := { row := baumInnerRow, standIns := [], harness := (true, "7f4d983276a51e62fd98228e1381b39a856a12fd3055940d95fb63f6bf2f1df9"), looks := true }, kinds := [], alts := [], laidByText := true, laidKinds := [.data, .pinned], laidTests := true, laidLooks := .later }
def BaumInnerCardSaid : Prop := Claim7.holds Tryz.pinned (.plain (OpenSpec.ofChange baumInnerSpec)) baumInnerCard

/-- THE TIED CARD OF 'sandreckonerlaw05.BaumSame'. -/
def baumSameCard : Claim7 := { stood := { row := baumSameRow, standIns := [], harness := (true, "7f4d983276a51e62fd98228e1381b39a856a12fd3055940d95fb63f6bf2f1df9"), looks := true }, kinds := [], alts := [], laidByText := true, laidKinds := [.data, .pinned], laidTests := true, laidLooks := .later }
def BaumSameCardSaid : Prop := Claim7.holds Tryz.pinned (.plain (OpenSpec.ofChange baumSameSpec)) baumSameCard

/-- THE TIED CARD OF 'sandreckonerlaw05.BaumRelators'. -/
def baumRelatorsCard : Claim7 := { stood := { row := baumRelatorsRow, standIns := [], harness := (true, "7f4d983276a51e62fd98228e1381b39a856a12fd3055940d95fb63f6bf2f1df9"), looks := true }, kinds := [], alts := [], laidByText := true, laidKinds := [.data, .pinned], laidTests := true, laidLooks := .later }
def BaumRelatorsCardSaid : Prop := Claim7.holds Tryz.pinned (.plain (OpenSpec.ofChange baumRelatorsSpec)) baumRelatorsCard

/-- THE TIED CARD OF 'sandreckonerlaw05.BaumTowers'. -/
def baumTowersCard : Claim7 := { stood := { row := baumTowersRow, standIns := [], harness := (true, "7f4d983276a51e62fd98228e1381b39a856a12fd3055940d95fb63f6bf2f1df9"), looks := true }, kinds := [], alts := [], laidByText := true, laidKinds := [.data, .pinned], laidTests := true, laidLooks := .later }
def BaumTowersCardSaid : Prop := Claim7.holds Tryz.pinned (.plain (OpenSpec.ofChange baumTowersSpec)) baumTowersCard

/-- THE TIED CARD OF 'sandreckonerlaw05.BaumChecks'. -/
def baumChecksCard : Claim7 := { stood := { row := baumChecksRow, standIns := [], harness := (true, "7f4d983276a51e62fd98228e1381b39a856a12fd3055940d95fb63f6bf2f1df9"), looks := true }, kinds := [], alts := [], laidByText := true, laidKinds := [.data, .pinned], laidTests := true, laidLooks := .later }
def BaumChecksCardSaid : Prop := Claim7.holds Tryz.pinned (.plain (OpenSpec.ofChange baumChecksSpec)) baumChecksCard

/-- THE TIED CARD OF 'sandreckonerlaw05.BaumReplays'. -/
def baumReplaysCard : Claim7 := { stood := { row := baumReplaysRow, standIns := [], harness := (true, "7f4d983276a51e62fd98228e1381b39a856a12fd3055940d95fb63f6bf2f1df9"), looks := true }, kinds := [], alts := [], laidByText := true, laidKinds := [.data, .pinned], laidTests := true, laidLooks := .later }
def BaumReplaysCardSaid : Prop := Claim7.holds Tryz.pinned (.plain (OpenSpec.ofChange baumReplaysSpec)) baumReplaysCard

/-- THE TIED CARD OF 'sandreckonerlaw05.BaumOrders'. -/
def baumOrdersCard : Claim7 := { stood := { row := baumOrdersRow, standIns := [], harness := (true, "7f4d983276a51e62fd98228e1381b39a856a12fd3055940d95fb63f6bf2f1df9"), looks := true }, kinds := [], alts := [], laidByText := true, laidKinds := [.data, .pinned], laidTests := true, laidLooks := .later }
def BaumOrdersCardSaid : Prop := Claim7.holds Tryz.pinned (.plain (OpenSpec.ofChange baumOrdersSpec)) baumOrdersCard

/-- THE TIED CARD OF 'sandreckonerlaw05.BaumMuls'. -/
def baumMulsCard : Claim7 := { stood := { row := baumMulsRow, standIns := [], harness := (true, "7f4d983276a51e62fd98228e1381b39a856a12fd3055940d95fb63f6bf2f1df9"), looks := true }, kinds := [], alts := [], laidByText := true, laidKinds := [.data, .pinned], laidTests := true, laidLooks := .later }
def BaumMulsCardSaid : Prop := Claim7.holds Tryz.pinned (.plain (OpenSpec.ofChange baumMulsSpec)) baumMulsCard

/-- THE TIED CARD OF 'sandreckonerlaw05.BaumGroup'. -/
def baumGroupCard : Claim7 := { stood := { row := baumGroupRow, standIns := [], harness := (true, "7f4d983276a51e62fd98228e1381b39a856a12fd3055940d95fb63f6bf2f1df9"), looks := true }, kinds := [], alts := [], laidByText := true, laidKinds := [.data, .pinned], laidTests := true, laidLooks := .later }
def BaumGroupCardSaid : Prop := Claim7.holds Tryz.pinned (.plain (OpenSpec.ofChange baumGroupSpec)) baumGroupCard

/-- THE SECOND FORM's CARD OF 'sandreckonerlaw05.BaumTraces'. -/
def baumTracesUptoCard : Claim7 := { stood := { row := baumTracesUptoRow, standIns := [], harness := (true, "7f4d983276a51e62fd98228e1381b39a856a12fd3055940d95fb63f6bf2f1df9"), looks := true }, kinds := [], alts := [], laidByText := true, laidKinds := [.data, .pinned], laidTests := true, laidLooks := .later }
def BaumTracesUptoCardSaid : Prop := Claim7.holds Tryz.pinned (.plain (OpenSpec.upto baumTracesSpec)) baumTracesUptoCard

/-- THE SECOND FORM's CARD OF 'sandreckonerlaw05.BaumInner'. -/
def baumInnerUptoCard : Claim7 := { stood := { row := baumInnerUptoRow, standIns := [], harness := (true, "7f4d983276a51e62fd98228e1381b39a856a12fd3055940d95fb63f6bf2f1df9"), looks := true }, kinds := [], alts := [], laidByText := true, laidKinds := [.data, .pinned], laidTests := true, laidLooks := .later }
def BaumInnerUptoCardSaid : Prop := Claim7.holds Tryz.pinned (.plain (OpenSpec.upto baumInnerSpec)) baumInnerUptoCard

/-- THE SECOND FORM's CARD OF 'sandreckonerlaw05.BaumSame'. -/
def baumSameUptoCard : Claim7 := { stood := { row := baumSameUptoRow, standIns := [], harness := (true, "7f4d983276a51e62fd98228e1381b39a856a12fd3055940d95fb63f6bf2f1df9"), looks := true }, kinds := [], alts := [], laidByText := true, laidKinds := [.data, .pinned], laidTests := true, laidLooks := .later }
def BaumSameUptoCardSaid : Prop := Claim7.holds Tryz.pinned (.plain (OpenSpec.upto baumSameSpec)) baumSameUptoCard

/-- THE SECOND FORM's CARD OF 'sandreckonerlaw05.BaumRelators'. -/
def baumRelatorsUptoCard : Claim7 := { stood := { row := baumRelatorsUptoRow, standIns := [], harness := (true, "7f4d983276a51e62fd98228e1381b39a856a12fd3055940d95fb63f6bf2f1df9"), looks := true }, kinds := [], alts := [], laidByText := true, laidKinds := [.data, .pinned], laidTests := true, laidLooks := .later }
def BaumRelatorsUptoCardSaid : Prop := Claim7.holds Tryz.pinned (.plain (OpenSpec.upto baumRelatorsSpec)) baumRelatorsUptoCard

/-- THE SECOND FORM's CARD OF 'sandreckonerlaw05.BaumTowers'. -/
def baumTowersUptoCard : Claim7 := { stood := { row := baumTowersUptoRow, standIns := [], harness := (true, "7f4d983276a51e62fd98228e1381b39a856a12fd3055940d95fb63f6bf2f1df9"), looks := true }, kinds := [], alts := [], laidByText := true, laidKinds := [.data, .pinned], laidTests := true, laidLooks := .later }
def BaumTowersUptoCardSaid : Prop := Claim7.holds Tryz.pinned (.plain (OpenSpec.upto baumTowersSpec)) baumTowersUptoCard

/-- THE SECOND FORM's CARD OF 'sandreckonerlaw05.BaumChecks'. -/
def baumChecksUptoCard : Claim7 := { stood := { row := baumChecksUptoRow, standIns := [], harness := (true, "7f4d983276a51e62fd98228e1381b39a856a12fd3055940d95fb63f6bf2f1df9"), looks := true }, kinds := [], alts := [], laidByText := true, laidKinds := [.data, .pinned], laidTests := true, laidLooks := .later }
def BaumChecksUptoCardSaid : Prop := Claim7.holds Tryz.pinned (.plain (OpenSpec.upto baumChecksSpec)) baumChecksUptoCard

/-- THE SECOND FORM's CARD OF 'sandreckonerlaw05.BaumReplays'. -/
def baumReplaysUptoCard : Claim7 := { stood := { row := baumReplaysUptoRow, standIns := [], harness := (true, "7f4d983276a51e62fd98228e1381b39a856a12fd3055940d95fb63f6bf2f1df9"), looks := true }, kinds := [], alts := [], laidByText := true, laidKinds := [.data, .pinned], laidTests := true, laidLooks := .later }
def BaumReplaysUptoCardSaid : Prop := Claim7.holds Tryz.pinned (.plain (OpenSpec.upto baumReplaysSpec)) baumReplaysUptoCard

/-- THE SECOND FORM's CARD OF 'sandreckonerlaw05.BaumOrders'. -/
def baumOrdersUptoCard : Claim7 := { stood := { row := baumOrdersUptoRow, standIns := [], harness := (true, "7f4d983276a51e62fd98228e1381b39a856a12fd3055940d95fb63f6bf2f1df9"), looks := true }, kinds := [], alts := [], laidByText := true, laidKinds := [.data, .pinned], laidTests := true, laidLooks := .later }
def BaumOrdersUptoCardSaid : Prop := Claim7.holds Tryz.pinned (.plain (OpenSpec.upto baumOrdersSpec)) baumOrdersUptoCard

/-- THE SECOND FORM's CARD OF 'sandreckonerlaw05.BaumMuls'. -/
def baumMulsUptoCard : Claim7 := { stood := { row := baumMulsUptoRow, standIns := [], harness := (true, "7f4d983276a51e62fd98228e1381b39a856a12fd3055940d95fb63f6bf2f1df9"), looks := true }, kinds := [], alts := [], laidByText := true, laidKinds := [.data, .pinned], laidTests := true, laidLooks := .later }
def BaumMulsUptoCardSaid : Prop := Claim7.holds Tryz.pinned (.plain (OpenSpec.upto baumMulsSpec)) baumMulsUptoCard

/-- THE SECOND FORM's CARD OF 'sandreckonerlaw05.BaumGroup'. -/
def baumGroupUptoCard : Claim7 := { stood := { row := baumGroupUptoRow, standIns := [], harness := (true, "7f4d983276a51e62fd98228e1381b39a856a12fd3055940d95fb63f6bf2f1df9"), looks := true }, kinds := [], alts := [], laidByText := true, laidKinds := [.data, .pinned], laidTests := true, laidLooks := .later }
def BaumGroupUptoCardSaid : Prop := Claim7.holds Tryz.pinned (.plain (OpenSpec.upto baumGroupSpec)) baumGroupUptoCard
end Rows
end Go.Proofs.YtabafgphmbdpgaaGreatDoor
