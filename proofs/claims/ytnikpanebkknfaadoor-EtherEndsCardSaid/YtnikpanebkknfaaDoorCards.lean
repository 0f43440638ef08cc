/-
  DERIVED. GIVEN WITH THE SEED: THE CARDS: each row of YtnikpanebkknfaaDoorRows.lean that lists a variable, with what it lists TIED to the program's text (the seventh form; the later family's looks); each row that meets fmt, with fmt's text TOLD by the authors' own Lean function (tested against real Go, not proved from fmt's source: count such statements apart). THE CARD IS WHAT COUNTS. Prove the row's statement (the work); the ties are given (YtnikpanebkknfaaDoorTie.lean); close each card by the builder's one call (the guide's Derived/Test/ToyasCard.lean, 'card_holds'). Laid BY PROGRAM, IN A SANDBOX (cutbox-door.mjs). By AI agents, Wed Nov 11 2026. No macro, syntax, notation, axiom, sorry.
-/
import Derived.Test.YtnikpanebkknfaaDoorRows
import GoSem.ClaimSeven
namespace Go.Proofs.YtnikpanebkknfaaDoor
namespace Rows

/-- THE TIED CARD OF 'stevedorelaw07.EtherEnds'. -/
def etherEndsCard : Claim7 := { stood := { row := etherEndsRow, standIns := [], harness := (true, "b9d19698e4ad181f8303e475cb3c63bf1fd25b6f11f0b65ca991a99edc0be955"), looks := true }, kinds := [], alts := [], laidByText := true, laidKinds := [.data, .data, .data, .data, .sentinel, .sentinel, .pinned], laidTests := true, laidLooks := .later }
def EtherEndsCardSaid : Prop := Claim7.holds Tryd.pinned (.plain (OpenSpec.ofChange etherEndsSpec)) etherEndsCard

/-- THE TIED CARD OF 'stevedorelaw06.AddrTells'. -/
def addrTellsCard : Claim7 := { stood := { row := addrTellsRow, standIns := [], harness := (true, "b9d19698e4ad181f8303e475cb3c63bf1fd25b6f11f0b65ca991a99edc0be955"), looks := true }, kinds := [], alts := [], laidByText := true, laidKinds := [.data, .data, .data, .data, .sentinel, .sentinel, .pinned], laidTests := true, laidLooks := .later }
def AddrTellsCardSaid : Prop := Claim7.holds Tryd.pinned (.plain (OpenSpec.ofChange addrTellsSpec)) addrTellsCard

/-- THE TIED CARD OF 'stevedorelaw06.AddrPairs'. -/
def addrPairsCard : Claim7 := { stood := { row := addrPairsRow, standIns := [], harness := (true, "b9d19698e4ad181f8303e475cb3c63bf1fd25b6f11f0b65ca991a99edc0be955"), looks := true }, kinds := [], alts := [], laidByText := true, laidKinds := [.data, .data, .data, .data, .sentinel, .sentinel, .pinned], laidTests := true, laidLooks := .later }
def AddrPairsCardSaid : Prop := Claim7.holds Tryd.pinned (.plain (OpenSpec.ofChange addrPairsSpec)) addrPairsCard

/-- THE TIED CARD OF 'stevedorelaw06.AddrBack'. -/
def addrBackCard : Claim7 := { stood := { row := addrBackRow, standIns := [], harness := (true, "b9d19698e4ad181f8303e475cb3c63bf1fd25b6f11f0b65ca991a99edc0be955"), looks := true }, kinds := [], alts := [], laidByText := true, laidKinds := [.data, .data, .data, .data, .sentinel, .sentinel, .pinned], laidTests := true, laidLooks := .later }
def AddrBackCardSaid : Prop := Claim7.holds Tryd.pinned (.plain (OpenSpec.ofChange addrBackSpec)) addrBackCard

/-- THE TIED CARD OF 'stevedorelaw06.AddrNets'. -/
def addrNetsCard : Claim7 := { stood := { row := addrNetsRow, standIns := [], harness := (true, "b9d19698e4ad181f8303e475cb3c63bf1fd25b6f11f0b65ca991a99edc0be955"), looks := true }, kinds := [], alts := [], laidByText := true, laidKinds := [.data, .data, .data, .data, .sentinel, .sentinel, .pinned], laidTests := true, laidLooks := .later }
def AddrNetsCardSaid : Prop := Claim7.holds Tryd.pinned (.plain (OpenSpec.ofChange addrNetsSpec)) addrNetsCard

/-- THE TIED CARD OF 'stevedorelaw06.AddrOrder'. -/
def addrOrderCard : Claim7 := { stood := { row := addrOrderRow, standIns := [], harness := (true, "b9d19698e4ad181f8303e475cb3c63bf1fd25b6f11f0b65ca991a99edc0be955"), looks := true }, kinds := [], alts := [], laidByText := true, laidKinds := [.data, .data, .data, .data, .sentinel, .sentinel, .pinned], laidTests := true, laidLooks := .later }
def AddrOrderCardSaid : Prop := Claim7.holds Tryd.pinned (.plain (OpenSpec.ofChange addrOrderSpec)) addrOrderCard

/-- THE TIED CARD OF 'stevedorelaw07.EtherTells'. -/
def etherTellsCard : Claim7 := { stood := { row := etherTellsRow, standIns := [], harness := (true, "b9d19698e4ad181f8303e475cb3c63bf1fd25b6f11f0b65ca991a99edc0be955"), looks := true }, kinds := [], alts := [], laidByText := true, laidKinds := [.data, .data, .data, .data, .sentinel, .sentinel, .pinned], laidTests := true, laidLooks := .later }
def EtherTellsCardSaid : Prop := Claim7.holds Tryd.pinned (.plain (OpenSpec.ofChange etherTellsSpec)) etherTellsCard

/-- THE TIED CARD OF 'stevedorelaw07.EtherMacs'. -/
def etherMacsCard : Claim7 := { stood := { row := etherMacsRow, standIns := [], harness := (true, "b9d19698e4ad181f8303e475cb3c63bf1fd25b6f11f0b65ca991a99edc0be955"), looks := true }, kinds := [], alts := [], laidByText := true, laidKinds := [.data, .data, .data, .data, .sentinel, .sentinel, .pinned], laidTests := true, laidLooks := .later }
def EtherMacsCardSaid : Prop := Claim7.holds Tryd.pinned (.plain (OpenSpec.ofChange etherMacsSpec)) etherMacsCard

/-- THE TIED CARD OF 'stevedorelaw07.EtherBack'. -/
def etherBackCard : Claim7 := { stood := { row := etherBackRow, standIns := [], harness := (true, "b9d19698e4ad181f8303e475cb3c63bf1fd25b6f11f0b65ca991a99edc0be955"), looks := true }, kinds := [], alts := [], laidByText := true, laidKinds := [.data, .data, .data, .data, .sentinel, .sentinel, .pinned], laidTests := true, laidLooks := .later }
def EtherBackCardSaid : Prop := Claim7.holds Tryd.pinned (.plain (OpenSpec.ofChange etherBackSpec)) etherBackCard

/-- THE TIED CARD OF 'stevedorelaw07.EtherTexts'. -/
def etherTextsCard : Claim7 := { stood := { row := etherTextsRow, standIns := [], harness := (true, "b9d19698e4ad181f8303e475cb3c63bf1fd25b6f11f0b65ca991a99edc0be955"), looks := true }, kinds := [], alts := [], laidByText := true, laidKinds := [.data, .data, .data, .data, .sentinel, .sentinel, .pinned], laidTests := true, laidLooks := .later }
def EtherTextsCardSaid : Prop := Claim7.holds Tryd.pinned (.plain (OpenSpec.ofChange etherTextsSpec)) etherTextsCard

/-- THE SECOND FORM's CARD OF 'stevedorelaw07.EtherEnds'. -/
def etherEndsUptoCard : Claim7 := { stood := { row := etherEndsUptoRow, standIns := [], harness := (true, "b9d19698e4ad181f8303e475cb3c63bf1fd25b6f11f0b65ca991a99edc0be955"), looks := true }, kinds := [], alts := [], laidByText := true, laidKinds := [.data, .data, .data, .data, .sentinel, .sentinel, .pinned], laidTests := true, laidLooks := .later }
def EtherEndsUptoCardSaid : Prop := Claim7.holds Tryd.pinned (.plain (OpenSpec.upto etherEndsSpec)) etherEndsUptoCard

/-- THE SECOND FORM's CARD OF 'stevedorelaw06.AddrTells'. -/
def addrTellsUptoCard : Claim7 := { stood := { row := addrTellsUptoRow, standIns := [], harness := (true, "b9d19698e4ad181f8303e475cb3c63bf1fd25b6f11f0b65ca991a99edc0be955"), looks := true }, kinds := [], alts := [], laidByText := true, laidKinds := [.data, .data, .data, .data, .sentinel, .sentinel, .pinned], laidTests := true, laidLooks := .later }
def AddrTellsUptoCardSaid : Prop := Claim7.holds Tryd.pinned (.plain (OpenSpec.upto addrTellsSpec)) addrTellsUptoCard

/-- THE SECOND FORM's CARD OF 'stevedorelaw06.AddrPairs'. -/
def addrPairsUptoCard : Claim7 := { stood := { row := addrPairsUptoRow, standIns := [], harness := (true, "b9d19698e4ad181f8303e475cb3c63bf1fd25b6f11f0b65ca991a99edc0be955"), looks := true }, kinds := [], alts := [], laidByText := true, laidKinds := [.data, .data, .data, .data, .sentinel, .sentinel, .pinned], laidTests := true, laidLooks := .later }
def AddrPairsUptoCardSaid : Prop := Claim7.holds Tryd.pinned (.plain (OpenSpec.upto addrPairsSpec)) addrPairsUptoCard

/-- THE SECOND FORM's CARD OF 'stevedorelaw06.AddrBack'. -/
def addrBackUptoCard : Claim7 := { stood := { row := addrBackUptoRow, standIns := [], harness := (true, "b9d19698e4ad181f8303e475cb3c63bf1fd25b6f11f0b65ca991a99edc0be955"), looks := true }, kinds := [], alts := [], laidByText := true, laidKinds := [.data, .data, .data, .data, .sentinel, .sentinel, .pinned], laidTests := true, laidLooks := .later }
def AddrBackUptoCardSaid : Prop := Claim7.holds Tryd.pinned (.plain (OpenSpec.upto addrBackSpec)) addrBackUptoCard

/-- THE SECOND FORM's CARD OF 'stevedorelaw06.AddrNets'. -/
def addrNetsUptoCard : Claim7 := { stood := { row := addrNetsUptoRow, standIns := [], harness := (true, "b9d19698e4ad181f8303e475cb3c63bf1fd25b6f11f0b65ca991a99edc0be955"), looks := true }, kinds := [], alts := [], laidByText := true, laidKinds := [.data, .data, .data, .data, .sentinel, .sentinel, .pinned], laidTests := true, laidLooks := .later }
def AddrNetsUptoCardSaid : Prop := Claim7.holds Tryd.pinned (.plain (OpenSpec.upto addrNetsSpec)) addrNetsUptoCard

/-- THE SECOND FORM's CARD OF 'stevedorelaw06.AddrOrder'. -/
def addrOrderUptoCard : Claim7 := { stood := { row := addrOrderUptoRow, standIns := [], harness := (true, "b9d19698e4ad181f8303e475cb3c63bf1fd25b6f11f0b65ca991a99edc0be955"), looks := true }, kinds := [], alts := [], laidByText := true, laidKinds := [.data, .data, .data, .data, .sentinel, .sentinel, .pinned], laidTests := true, laidLooks := .later }
def AddrOrderUptoCardSaid : Prop := Claim7.holds Tryd.pinned (.plain (OpenSpec.upto addrOrderSpec)) addrOrderUptoCard

/-- THE SECOND FORM's CARD OF 'stevedorelaw07.EtherTells'. -/
def etherTellsUptoCard : Claim7 := { stood := { row := etherTellsUptoRow, standIns := [], harness := (true, "b9d19698e4ad181f8303e475cb3c63bf1fd25b6f11f0b65ca991a99edc0be955"), looks := true }, kinds := [], alts := [], laidByText := true, laidKinds := [.data, .data, .data, .data, .sentinel, .sentinel, .pinned], laidTests := true, laidLooks := .later }
def EtherTellsUptoCardSaid : Prop := Claim7.holds Tryd.pinned (.plain (OpenSpec.upto etherTellsSpec)) etherTellsUptoCard

/-- THE SECOND FORM's CARD OF 'stevedorelaw07.EtherMacs'. -/
def etherMacsUptoCard : Claim7 := { stood := { row := etherMacsUptoRow, standIns := [], harness := (true, "b9d19698e4ad181f8303e475cb3c63bf1fd25b6f11f0b65ca991a99edc0be955"), looks := true }, kinds := [], alts := [], laidByText := true, laidKinds := [.data, .data, .data, .data, .sentinel, .sentinel, .pinned], laidTests := true, laidLooks := .later }
def EtherMacsUptoCardSaid : Prop := Claim7.holds Tryd.pinned (.plain (OpenSpec.upto etherMacsSpec)) etherMacsUptoCard

/-- THE SECOND FORM's CARD OF 'stevedorelaw07.EtherBack'. -/
def etherBackUptoCard : Claim7 := { stood := { row := etherBackUptoRow, standIns := [], harness := (true, "b9d19698e4ad181f8303e475cb3c63bf1fd25b6f11f0b65ca991a99edc0be955"), looks := true }, kinds := [], alts := [], laidByText := true, laidKinds := [.data, .data, .data, .data, .sentinel, .sentinel, .pinned], laidTests := true, laidLooks := .later }
def EtherBackUptoCardSaid : Prop := Claim7.holds Tryd.pinned (.plain (OpenSpec.upto etherBackSpec)) etherBackUptoCard

/-- THE SECOND FORM's CARD OF 'stevedorelaw07.EtherTexts'. -/
def etherTextsUptoCard : Claim7 := { stood := { row := etherTextsUptoRow, standIns := [], harness := (true, "b9d19698e4ad181f8303e475cb3c63bf1fd25b6f11f0b65ca991a99edc0be955"), looks := true }, kinds := [], alts := [], laidByText := true, laidKinds := [.data, .data, .data, .data, .sentinel, .sentinel, .pinned], laidTests := true, laidLooks := .later }
def EtherTextsUptoCardSaid : Prop := Claim7.holds Tryd.pinned (.plain (OpenSpec.upto etherTextsSpec)) etherTextsUptoCard
end Rows
end Go.Proofs.YtnikpanebkknfaaDoor
