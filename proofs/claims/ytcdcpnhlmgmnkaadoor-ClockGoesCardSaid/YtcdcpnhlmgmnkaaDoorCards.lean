/-
  DERIVED. GIVEN WITH THE SEED: THE CARDS: each row of YtcdcpnhlmgmnkaaDoorRows.lean that lists a variable, with what it lists TIED to the program's text (the seventh form; the later family's looks); each row that meets fmt, with fmt's text TOLD by the authors' own Lean function (tested against real Go, not proved from fmt's source: count such statements apart). THE CARD IS WHAT COUNTS. Prove the row's statement (the work); the ties are given (YtcdcpnhlmgmnkaaDoorTie.lean); close each card by the builder's one call (the guide's Derived/Test/ToyasCard.lean, 'card_holds'). Laid BY PROGRAM, IN A SANDBOX (cutbox-door.mjs). By AI agents, Wed Nov 11 2026. No macro, syntax, notation, axiom, sorry.
-/
import Derived.Test.YtcdcpnhlmgmnkaaDoorRows
import GoSem.ClaimSeven
namespace Go.Proofs.YtcdcpnhlmgmnkaaDoor
namespace Rows

/-- THE TIED CARD OF 'joustlaw28.ClockTells'. -/
def clockTellsCard : Claim7 := { stood := { row := clockTellsRow, standIns := [], harness := (true, "6d5915ce1e25d8179f6eccc05cc09ca2acb15d27f6394cadf1bb4d27289f2c0a"), looks := false }, kinds := [], alts := [], laidByText := true, laidKinds := [.data, .data, .data], laidTests := true, laidLooks := .later }
def ClockTellsCardSaid : Prop := Claim7.holds Tryd.pinned (.plain (OpenSpec.ofChange clockTellsSpec)) clockTellsCard

/-- THE TIED CARD OF 'joustlaw28.ClockGoes'. -/
def clockGoesCard : Claim7 := { stood := { row := clockGoesRow, standIns := [], harness := (true, "6d5915ce1e25d8179f6eccc05cc09ca2acb15d27f6394cadf1bb4d27289f2c0a"), looks := false }, kinds := [], alts := [], laidByText := true, laidKinds := [.data, .data, .data], laidTests := true, laidLooks := .later }
def ClockGoesCardSaid : Prop := Claim7.holds Tryd.pinned (.plain (OpenSpec.ofChange clockGoesSpec)) clockGoesCard

/-- THE TIED CARD OF 'joustlaw28.ClockWhen'. -/
def clockWhenCard : Claim7 := { stood := { row := clockWhenRow, standIns := [], harness := (true, "6d5915ce1e25d8179f6eccc05cc09ca2acb15d27f6394cadf1bb4d27289f2c0a"), looks := false }, kinds := [], alts := [], laidByText := true, laidKinds := [.data, .data, .data], laidTests := true, laidLooks := .later }
def ClockWhenCardSaid : Prop := Claim7.holds Tryd.pinned (.plain (OpenSpec.ofChange clockWhenSpec)) clockWhenCard

/-- THE TIED CARD OF 'joustlaw28.ClockStays'. -/
def clockStaysCard : Claim7 := { stood := { row := clockStaysRow, standIns := [], harness := (true, "6d5915ce1e25d8179f6eccc05cc09ca2acb15d27f6394cadf1bb4d27289f2c0a"), looks := false }, kinds := [], alts := [], laidByText := true, laidKinds := [.data, .data, .data], laidTests := true, laidLooks := .later }
def ClockStaysCardSaid : Prop := Claim7.holds Tryd.pinned (.plain (OpenSpec.ofChange clockStaysSpec)) clockStaysCard

/-- THE TIED CARD OF 'joustlaw32.OddsDraws'. -/
def oddsDrawsCard : Claim7 := { stood := { row := oddsDrawsRow, standIns := [], harness := (true, "6d5915ce1e25d8179f6eccc05cc09ca2acb15d27f6394cadf1bb4d27289f2c0a"), looks := false }, kinds := [], alts := [], laidByText := true, laidKinds := [.data, .data, .data], laidTests := true, laidLooks := .later }
def OddsDrawsCardSaid : Prop := Claim7.holds Tryd.pinned (.plain (OpenSpec.ofChange oddsDrawsSpec)) oddsDrawsCard

/-- THE TIED CARD OF 'joustlaw32.OddsSets'. -/
def oddsSetsCard : Claim7 := { stood := { row := oddsSetsRow, standIns := [], harness := (true, "6d5915ce1e25d8179f6eccc05cc09ca2acb15d27f6394cadf1bb4d27289f2c0a"), looks := false }, kinds := [], alts := [], laidByText := true, laidKinds := [.data, .data, .data], laidTests := true, laidLooks := .later }
def OddsSetsCardSaid : Prop := Claim7.holds Tryd.pinned (.plain (OpenSpec.ofChange oddsSetsSpec)) oddsSetsCard

/-- THE TIED CARD OF 'joustlaw32.OddsSums'. -/
def oddsSumsCard : Claim7 := { stood := { row := oddsSumsRow, standIns := [], harness := (true, "6d5915ce1e25d8179f6eccc05cc09ca2acb15d27f6394cadf1bb4d27289f2c0a"), looks := false }, kinds := [], alts := [], laidByText := true, laidKinds := [.data, .data, .data], laidTests := true, laidLooks := .later }
def OddsSumsCardSaid : Prop := Claim7.holds Tryd.pinned (.plain (OpenSpec.ofChange oddsSumsSpec)) oddsSumsCard

/-- THE TIED CARD OF 'joustlaw32.OddsOrder'. -/
def oddsOrderCard : Claim7 := { stood := { row := oddsOrderRow, standIns := [], harness := (true, "6d5915ce1e25d8179f6eccc05cc09ca2acb15d27f6394cadf1bb4d27289f2c0a"), looks := false }, kinds := [], alts := [], laidByText := true, laidKinds := [.data, .data, .data], laidTests := true, laidLooks := .later }
def OddsOrderCardSaid : Prop := Claim7.holds Tryd.pinned (.plain (OpenSpec.ofChange oddsOrderSpec)) oddsOrderCard

/-- THE TIED CARD OF 'joustlaw32.OddsTells'. -/
def oddsTellsCard : Claim7 := { stood := { row := oddsTellsRow, standIns := [], harness := (true, "6d5915ce1e25d8179f6eccc05cc09ca2acb15d27f6394cadf1bb4d27289f2c0a"), looks := false }, kinds := [], alts := [], laidByText := true, laidKinds := [.data, .data, .data], laidTests := true, laidLooks := .later }
def OddsTellsCardSaid : Prop := Claim7.holds Tryd.pinned (.plain (OpenSpec.ofChange oddsTellsSpec)) oddsTellsCard

/-- THE TIED CARD OF 'joustlaw32.OddsNot'. -/
def oddsNotCard : Claim7 := { stood := { row := oddsNotRow, standIns := [], harness := (true, "6d5915ce1e25d8179f6eccc05cc09ca2acb15d27f6394cadf1bb4d27289f2c0a"), looks := false }, kinds := [], alts := [], laidByText := true, laidKinds := [.data, .data, .data], laidTests := true, laidLooks := .later }
def OddsNotCardSaid : Prop := Claim7.holds Tryd.pinned (.plain (OpenSpec.ofChange oddsNotSpec)) oddsNotCard

/-- THE SECOND FORM's CARD OF 'joustlaw28.ClockTells'. -/
def clockTellsUptoCard : Claim7 := { stood := { row := clockTellsUptoRow, standIns := [], harness := (true, "6d5915ce1e25d8179f6eccc05cc09ca2acb15d27f6394cadf1bb4d27289f2c0a"), looks := false }, kinds := [], alts := [], laidByText := true, laidKinds := [.data, .data, .data], laidTests := true, laidLooks := .later }
def ClockTellsUptoCardSaid : Prop := Claim7.holds Tryd.pinned (.plain (OpenSpec.upto clockTellsSpec)) clockTellsUptoCard

/-- THE SECOND FORM's CARD OF 'joustlaw28.ClockGoes'. -/
def clockGoesUptoCard : Claim7 := { stood := { row := clockGoesUptoRow, standIns := [], harness := (true, "6d5915ce1e25d8179f6eccc05cc09ca2acb15d27f6394cadf1bb4d27289f2c0a"), looks := false }, kinds := [], alts := [], laidByText := true, laidKinds := [.data, .data, .data], laidTests := true, laidLooks := .later }
def ClockGoesUptoCardSaid : Prop := Claim7.holds Tryd.pinned (.plain (OpenSpec.upto clockGoesSpec)) clockGoesUptoCard

/-- THE SECOND FORM's CARD OF 'joustlaw28.ClockWhen'. -/
def clockWhenUptoCard : Claim7 := { stood := { row := clockWhenUptoRow, standIns := [], harness := (true, "6d5915ce1e25d8179f6eccc05cc09ca2acb15d27f6394cadf1bb4d27289f2c0a"), looks := false }, kinds := [], alts := [], laidByText := true, laidKinds := [.data, .data, .data], laidTests := true, laidLooks := .later }
def ClockWhenUptoCardSaid : Prop := Claim7.holds Tryd.pinned (.plain (OpenSpec.upto clockWhenSpec)) clockWhenUptoCard

/-- THE SECOND FORM's CARD OF 'joustlaw28.ClockStays'. -/
def clockStaysUptoCard : Claim7 := { stood := { row := clockStaysUptoRow, standIns := [], harness := (true, "6d5915ce1e25d8179f6eccc05cc09ca2acb15d27f6394cadf1bb4d27289f2c0a"), looks := false }, kinds := [], alts := [], laidByText := true, laidKinds := [.data, .data, .data], laidTests := true, laidLooks := .later }
def ClockStaysUptoCardSaid : Prop := Claim7.holds Tryd.pinned (.plain (OpenSpec.upto clockStaysSpec)) clockStaysUptoCard

/-- THE SECOND FORM's CARD OF 'joustlaw32.OddsDraws'. -/
def oddsDrawsUptoCard : Claim7 := { stood := { row := oddsDrawsUptoRow, standIns := [], harness := (true, "6d5915ce1e25d8179f6eccc05cc09ca2acb15d27f6394cadf1bb4d27289f2c0a"), looks := false }, kinds := [], alts := [], laidByText := true, laidKinds := [.data, .data, .data], laidTests := true, laidLooks := .later }
def OddsDrawsUptoCardSaid : Prop := Claim7.holds Tryd.pinned (.plain (OpenSpec.upto oddsDrawsSpec)) oddsDrawsUptoCard

/-- THE SECOND FORM's CARD OF 'joustlaw32.OddsSets'. -/
def oddsSetsUptoCard : Claim7 := { stood := { row := oddsSetsUptoRow, standIns := [], harness := (true, "6d5915ce1e25d8179f6eccc05cc09ca2acb15d27f6394cadf1bb4d27289f2c0a"), looks := false }, kinds := [], alts := [], laidByText := true, laidKinds := [.data, .data, .data], laidTests := true, laidLooks := .later }
def OddsSetsUptoCardSaid : Prop := Claim7.holds Tryd.pinned (.plain (OpenSpec.upto oddsSetsSpec)) oddsSetsUptoCard

/-- THE SECOND FORM's CARD OF 'joustlaw32.OddsSums'. -/
def oddsSumsUptoCard : Claim7 := { stood := { row := oddsSumsUptoRow, standIns := [], harness := (true, "6d5915ce1e25d8179f6eccc05cc09ca2acb15d27f6394cadf1bb4d27289f2c0a"), looks := false }, kinds := [], alts := [], laidByText := true, laidKinds := [.data, .data, .data], laidTests := true, laidLooks := .later }
def OddsSumsUptoCardSaid : Prop := Claim7.holds Tryd.pinned (.plain (OpenSpec.upto oddsSumsSpec)) oddsSumsUptoCard

/-- THE SECOND FORM's CARD OF 'joustlaw32.OddsOrder'. -/
def oddsOrderUptoCard : Claim7 := { stood := { row := oddsOrderUptoRow, standIns := [], harness := (true, "6d5915ce1e25d8179f6eccc05cc09ca2acb15d27f6394cadf1bb4d27289f2c0a"), looks := false }, kinds := [], alts := [], laidByText := true, laidKinds := [.data, .data, .data], laidTests := true, laidLooks := .later }
def OddsOrderUptoCardSaid : Prop := Claim7.holds Tryd.pinned (.plain (OpenSpec.upto oddsOrderSpec)) oddsOrderUptoCard

/-- THE SECOND FORM's CARD OF 'joustlaw32.OddsTells'. -/
def oddsTellsUptoCard : Claim7 := { stood := { row := oddsTellsUptoRow, standIns := [], harness := (true, "6d5915ce1e25d8179f6eccc05cc09ca2acb15d27f6394cadf1bb4d27289f2c0a"), looks := false }, kinds := [], alts := [], laidByText := true, laidKinds := [.data, .data, .data], laidTests := true, laidLooks := .later }
def OddsTellsUptoCardSaid : Prop := Claim7.holds Tryd.pinned (.plain (OpenSpec.upto oddsTellsSpec)) oddsTellsUptoCard

/-- THE SECOND FORM's CARD OF 'joustlaw32.OddsNot'. -/
def oddsNotUptoCard : Claim7 := { stood := { row := oddsNotUptoRow, standIns := [], harness := (true, "6d5915ce1e25d8179f6eccc05cc09ca2acb15d27f6394cadf1bb4d27289f2c0a"), looks := false }, kinds := [], alts := [], laidByText := true, laidKinds := [.data, .data, .data], laidTests := true, laidLooks := .later }
def OddsNotUptoCardSaid : Prop := Claim7.holds Tryd.pinned (.plain (OpenSpec.upto oddsNotSpec)) oddsNotUptoCard
end Rows
end Go.Proofs.YtcdcpnhlmgmnkaaDoor
