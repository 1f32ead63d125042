/-
  DERIVED. GIVEN WITH THE SEED: THE CARDS: each row of YtlmmgebealakkaaGreatDoorRows.lean that lists a variable, with what it lists TIED to the program's text (the seventh form; the later family's looks); each row that meets fmt, with fmt's text TOLD by the authors' own Lean function (tested against real Go, not proved from fmt's source: count such statements apart). THE CARD IS WHAT COUNTS. Prove the row's statement (the work); the ties are given (YtlmmgebealakkaaGreatDoorTie.lean); close each card by the builder's one call (the guide's Derived/Test/ToyasCard.lean, 'card_holds'). Laid BY PROGRAM, IN A SANDBOX (cutbox-door.mjs). By AI agents, Wed Nov 11 2026. No macro, syntax, notation, axiom, sorry.
-/
import Derived.Test.YtlmmgebealakkaaGreatDoorRows
import GoSem.ClaimSeven
namespace Go.Proofs.YtlmmgebealakkaaGreatDoor
namespace Rows

/-- THE TIED CARD OF 'dripstonelaw04.ElemChecks'. -/
def elemChecksCard : Claim7 := { stood := { row := elemChecksRow, standIns := [], harness := (true, "b42c0694364b4e31ece364093e3e3286528630bbfcb70dec17395036d0629fe4"), looks := false }, kinds := [], alts := [], laidByText := true, laidKinds := [.data, .data, .data], laidTests := true, laidLooks := .later }
def ElemChecksCardSaid : Prop := Claim7.holds Tryz.pinned (.plain (OpenSpec.ofChange elemChecksSpec)) elemChecksCard

/-- THE TIED CARD OF 'dripstonelaw04.ElemLess'. -/
def elemLessCard : Claim7 := { stood := { row := elemLessRow, standIns := [], harness := (true, "b42c0694364b4e31ece364093e3e3286528630bbfcb70dec17395036d0629fe4"), looks := false }, kinds := [], alts := [], laidByText := true, laidKinds := [.data, .data, .data], laidTests := true, laidLooks := .later }
def ElemLessCardSaid : Prop := Claim7.holds Tryz.pinned (.plain (OpenSpec.ofChange elemLessSpec)) elemLessCard

/-- THE TIED CARD OF 'dripstonelaw04.ElemJoins'. -/
def elemJoinsCard : Claim7 := { stood := { row := elemJoinsRow, standIns := [], harness := (true, "b42c0694364b4e31ece364093e3e3286528630bbfcb70dec17395036d0629fe4"), looks := false }, kinds := [], alts := [], laidByText := true, laidKinds := [.data, .data, .data], laidTests := true, laidLooks := .later }
def ElemJoinsCardSaid : Prop := Claim7.holds Tryz.pinned (.plain (OpenSpec.ofChange elemJoinsSpec)) elemJoinsCard

/-- THE TIED CARD OF 'dripstonelaw04.ElemLaws'. -/
def elemLawsCard : Claim7 := { stood := { row := elemLawsRow, standIns := [], harness := (true, "b42c0694364b4e31ece364093e3e3286528630bbfcb70dec17395036d0629fe4"), looks := false }, kinds := [], alts := [], laidByText := true, laidKinds := [.data, .data, .data], laidTests := true, laidLooks := .later }
def ElemLawsCardSaid : Prop := Claim7.holds Tryz.pinned (.plain (OpenSpec.ofChange elemLawsSpec)) elemLawsCard

/-- THE TIED CARD OF 'dripstonelaw04.ElemWrong'. -/
def elemWrongCard : Claim7 := { stood := { row := elemWrongRow, standIns := [], harness := (true, "b42c0694364b4e31ece364093e3e3286528630bbfcb70dec17395036d0629fe4"), looks := false }, kinds := [], alts := [], laidByText := true, laidKinds := [.data, .data, .data], laidTests := true, laidLooks := .later }
def ElemWrongCardSaid : Prop := Claim7.holds Tryz.pinned (.plain (OpenSpec.ofChange elemWrongSpec)) elemWrongCard

/-- THE TIED CARD OF 'dripstonelaw04.ElemLists'. -/
def elemListsCard : Claim7 := { stood := { row := elemListsRow, standIns := [], harness := (true, "b42c0694364b4e31ece364093e3e3286528630bbfcb70dec17395036d0629fe4"), looks := false }, kinds := [], alts := [], laidByText := true, laidKinds := [.data, .data, .data], laidTests := true, laidLooks := .later }
def ElemListsCardSaid : Prop := Claim7.holds Tryz.pinned (.plain (OpenSpec.ofChange elemListsSpec)) elemListsCard

/-- THE TIED CARD OF 'dripstonelaw04.ElemDeltas'. -/
def elemDeltasCard : Claim7 := { stood := { row := elemDeltasRow, standIns := [], harness := (true, "b42c0694364b4e31ece364093e3e3286528630bbfcb70dec17395036d0629fe4"), looks := false }, kinds := [], alts := [], laidByText := true, laidKinds := [.data, .data, .data], laidTests := true, laidLooks := .later }
def ElemDeltasCardSaid : Prop := Claim7.holds Tryz.pinned (.plain (OpenSpec.ofChange elemDeltasSpec)) elemDeltasCard

/-- THE TIED CARD OF 'dripstonelaw04.ElemTakes'. -/
def elemTakesCard : Claim7 := { stood := { row := elemTakesRow, standIns := [], harness := (true, "b42c0694364b4e31ece364093e3e3286528630bbfcb70dec17395036d0629fe4"), looks := false }, kinds := [], alts := [], laidByText := true, laidKinds := [.data, .data, .data], laidTests := true, laidLooks := .later }
def ElemTakesCardSaid : Prop := Claim7.holds Tryz.pinned (.plain (OpenSpec.ofChange elemTakesSpec)) elemTakesCard

/-- THE TIED CARD OF 'dripstonelaw04.ElemShuffled'. -/
def elemShuffledCard : Claim7 := { stood := { row := elemShuffledRow, standIns := [], harness := (true, "b42c0694364b4e31ece364093e3e3286528630bbfcb70dec17395036d0629fe4"), looks := false }, kinds := [], alts := [], laidByText := true, laidKinds := [.data, .data, .data], laidTests := true, laidLooks := .later }
def ElemShuffledCardSaid : Prop := Claim7.holds Tryz.pinned (.plain (OpenSpec.ofChange elemShuffledSpec)) elemShuffledCard

/-- THE TIED CARD OF 'dripstonelaw04.ElemPieces'. -/
def elemPiecesCard : Claim7 := { stood := { row := elemPiecesRow, standIns := [], harness := (true, "b42c0694364b4e31ece364093e3e3286528630bbfcb70dec17395036d0629fe4"), looks := false }, kinds := [], alts := [], laidByText := true, laidKinds := [.data, .data, .data], laidTests := true, laidLooks := .later }
def ElemPiecesCardSaid : Prop := Claim7.holds Tryz.pinned (.plain (OpenSpec.ofChange elemPiecesSpec)) elemPiecesCard

/-- THE TIED CARD OF 'dripstonelaw04.ElemOrder'. -/
def elemOrderCard : Claim7 := { stood := { row := elemOrderRow, standIns := [], harness := (true, "b42c0694364b4e31ece364093e3e3286528630bbfcb70dec17395036d0629fe4"), looks := false }, kinds := [], alts := [], laidByText := true, laidKinds := [.data, .data, .data], laidTests := true, laidLooks := .later }
def ElemOrderCardSaid : Prop := Claim7.holds Tryz.pinned (.plain (OpenSpec.ofChange elemOrderSpec)) elemOrderCard

/-- THE TIED CARD OF 'dripstonelaw04.ElemWrites'. -/
def elemWritesCard : Claim7 := { stood := { row := elemWritesRow, standIns := [], harness := (true, "b42c0694364b4e31ece364093e3e3286528630bbfcb70dec17395036d0629fe4"), looks := false }, kinds := [], alts := [], laidByText := true, laidKinds := [.data, .data, .data], laidTests := true, laidLooks := .later }
def ElemWritesCardSaid : Prop := Claim7.holds Tryz.pinned (.plain (OpenSpec.ofChange elemWritesSpec)) elemWritesCard

/-- THE SECOND FORM's CARD OF 'dripstonelaw04.ElemChecks'. -/
def elemChecksUptoCard : Claim7 := { stood := { row := elemChecksUptoRow, standIns := [], harness := (true, "b42c0694364b4e31ece364093e3e3286528630bbfcb70dec17395036d0629fe4"), looks := false }, kinds := [], alts := [], laidByText := true, laidKinds := [.data, .data, .data], laidTests := true, laidLooks := .later }
def ElemChecksUptoCardSaid : Prop := Claim7.holds Tryz.pinned (.plain (OpenSpec.upto elemChecksSpec)) elemChecksUptoCard

/-- THE SECOND FORM's CARD OF 'dripstonelaw04.ElemLess'. -/
def elemLessUptoCard : Claim7 := { stood := { row := elemLessUptoRow, standIns := [], harness := (true, "b42c0694364b4e31ece364093e3e3286528630bbfcb70dec17395036d0629fe4"), looks := false }, kinds := [], alts := [], laidByText := true, laidKinds := [.data, .data, .data], laidTests := true, laidLooks := .later }
def ElemLessUptoCardSaid : Prop := Claim7.holds Tryz.pinned (.plain (OpenSpec.upto elemLessSpec)) elemLessUptoCard

/-- THE SECOND FORM's CARD OF 'dripstonelaw04.ElemJoins'. -/
def elemJoinsUptoCard : Claim7 := { stood := { row := elemJoinsUptoRow, standIns := [], harness := (true, "b42c0694364b4e31ece364093e3e3286528630bbfcb70dec17395036d0629fe4"), looks := false }, kinds := [], alts := [], laidByText := true, laidKinds := [.data, .data, .data], laidTests := true, laidLooks := .later }
def ElemJoinsUptoCardSaid : Prop := Claim7.holds Tryz.pinned (.plain (OpenSpec.upto elemJoinsSpec)) elemJoinsUptoCard

/-- THE SECOND FORM's CARD OF 'dripstonelaw04.ElemLaws'. -/
def elemLawsUptoCard : Claim7 := { stood := { row := elemLawsUptoRow, standIns := [], harness := (true, "b42c0694364b4e31ece364093e3e3286528630bbfcb70dec17395036d0629fe4"), looks := false }, kinds := [], alts := [], laidByText := true, laidKinds := [.data, .data, .data], laidTests := true, laidLooks := .later }
def ElemLawsUptoCardSaid : Prop := Claim7.holds Tryz.pinned (.plain (OpenSpec.upto elemLawsSpec)) elemLawsUptoCard

/-- THE SECOND FORM's CARD OF 'dripstonelaw04.ElemWrong'. -/
def elemWrongUptoCard : Claim7 := { stood := { row := elemWrongUptoRow, standIns := [], harness := (true, "b42c0694364b4e31ece364093e3e3286528630bbfcb70dec17395036d0629fe4"), looks := false }, kinds := [], alts := [], laidByText := true, laidKinds := [.data, .data, .data], laidTests := true, laidLooks := .later }
def ElemWrongUptoCardSaid : Prop := Claim7.holds Tryz.pinned (.plain (OpenSpec.upto elemWrongSpec)) elemWrongUptoCard

/-- THE SECOND FORM's CARD OF 'dripstonelaw04.ElemLists'. -/
def elemListsUptoCard : Claim7 := { stood := { row := elemListsUptoRow, standIns := [], harness := (true, "b42c0694364b4e31ece364093e3e3286528630bbfcb70dec17395036d0629fe4"), looks := false }, kinds := [], alts := [], laidByText := true, laidKinds := [.data, .data, .data], laidTests := true, laidLooks := .later }
def ElemListsUptoCardSaid : Prop := Claim7.holds Tryz.pinned (.plain (OpenSpec.upto elemListsSpec)) elemListsUptoCard

/-- THE SECOND FORM's CARD OF 'dripstonelaw04.ElemDeltas'. -/
def elemDeltasUptoCard : Claim7 := { stood := { row := elemDeltasUptoRow, standIns := [], harness := (true, "b42c0694364b4e31ece364093e3e3286528630bbfcb70dec17395036d0629fe4"), looks := false }, kinds := [], alts := [], laidByText := true, laidKinds := [.data, .data, .data], laidTests := true, laidLooks := .later }
def ElemDeltasUptoCardSaid : Prop := Claim7.holds Tryz.pinned (.plain (OpenSpec.upto elemDeltasSpec)) elemDeltasUptoCard

/-- THE SECOND FORM's CARD OF 'dripstonelaw04.ElemTakes'. -/
def elemTakesUptoCard : Claim7 := { stood := { row := elemTakesUptoRow, standIns := [], harness := (true, "b42c0694364b4e31ece364093e3e3286528630bbfcb70dec17395036d0629fe4"), looks := false }, kinds := [], alts := [], laidByText := true, laidKinds := [.data, .data, .data], laidTests := true, laidLooks := .later }
def ElemTakesUptoCardSaid : Prop := Claim7.holds Tryz.pinned (.plain (OpenSpec.upto elemTakesSpec)) elemTakesUptoCard

/-- THE SECOND FORM's CARD OF 'dripstonelaw04.ElemShuffled'. -/
def elemShuffledUptoCard : Claim7 := { stood := { row := elemShuffledUptoRow, standIns := [], harness := (true, "b42c0694364b4e31ece364093e3e3286528630bbfcb70dec17395036d0629fe4"), looks := false }, kinds := [], alts := [], laidByText := true, laidKinds := [.data, .data, .data], laidTests := true, laidLooks := .later }
def ElemShuffledUptoCardSaid : Prop := Claim7.holds Tryz.pinned (.plain (OpenSpec.upto elemShuffledSpec)) elemShuffledUptoCard

/-- THE SECOND FORM's CARD OF 'dripstonelaw04.ElemPieces'. -/
def elemPiecesUptoCard : Claim7 := { stood := { row := elemPiecesUptoRow, standIns := [], harness := (true, "b42c0694364b4e31ece364093e3e3286528630bbfcb70dec17395036d0629fe4"), looks := false }, kinds := [], alts := [], laidByText := true, laidKinds := [.data, .data, .data], laidTests := true, laidLooks := .later }
def ElemPiecesUptoCardSaid : Prop := Claim7.holds Tryz.pinned (.plain (OpenSpec.upto elemPiecesSpec)) elemPiecesUptoCard

/-- THE SECOND FORM's CARD OF 'dripstonelaw04.ElemOrder'. -/
def elemOrderUptoCard : Claim7 := { stood := { row := elemOrderUptoRow, standIns := [], harness := (true, "b42c0694364b4e31ece364093e3e3286528630bbfcb70dec17395036d0629fe4"), looks := false }, kinds := [], alts := [], laidByText := true, laidKinds := [.data, .data, .data], laidTests := true, laidLooks := .later }
def ElemOrderUptoCardSaid : Prop := Claim7.holds Tryz.pinned (.plain (OpenSpec.upto elemOrderSpec)) elemOrderUptoCard

/-- THE SECOND FORM's CARD OF 'dripstonelaw04.ElemWrites'. -/
def elemWritesUptoCard : Claim7 := { stood := { row := elemWritesUptoRow, standIns := [], harness := (true, "b42c0694364b4e31ece364093e3e3286528630bbfcb70dec17395036d0629fe4"), looks := false }, kinds := [], alts := [], laidByText := true, laidKinds := [.data, .data, .data], laidTests := true, laidLooks := .later }
def ElemWritesUptoCardSaid : Prop := Claim7.holds Tryz.pinned (.plain (OpenSpec.upto elemWritesSpec)) elemWritesUptoCard
end Rows
end Go.Proofs.YtlmmgebealakkaaGreatDoor
