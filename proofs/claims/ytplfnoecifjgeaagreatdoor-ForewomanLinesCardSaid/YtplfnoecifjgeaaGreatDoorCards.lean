/-
  DERIVED. GIVEN WITH THE SEED: THE CARDS: each row of YtplfnoecifjgeaaGreatDoorRows.lean that lists a variable, with what it lists TIED to the program's text (the seventh form; the later family's looks); each row that meets fmt, with fmt's text TOLD by the authors' own Lean function (tested against real Go, not proved from fmt's source: count such statements apart). THE CARD IS WHAT COUNTS. Prove the row's statement (the work); the ties are given (YtplfnoecifjgeaaGreatDoorTie.lean); close each card by the builder's one call (the guide's Derived/Test/ToyasCard.lean, 'card_holds'). Laid BY PROGRAM, IN A SANDBOX (cutbox-door.mjs). By AI agents, Wed Nov 11 2026. No macro, syntax, notation, axiom, sorry.
-/
import Derived.Test.YtplfnoecifjgeaaGreatDoorRows
import GoSem.ClaimSeven
namespace Go.Proofs.YtplfnoecifjgeaaGreatDoor
namespace Rows

/-- THE TIED CARD OF 'ferruletop.TopTrials'. -/
def topTrialsCard : Claim7 := { stood := { row := topTrialsRow, standIns := [], harness := (true, "929f75d7950b3526680d77ca906a7a6ee9ebbd065c964bf0237a0ffec25b25dd"), looks := true }, kinds := [], alts := [], laidByText := true, laidKinds := [.data, .data, .data, .data, .sentinel, .sentinel, .pinned], laidTests := true, laidLooks := .later }
def TopTrialsCardSaid : Prop := Claim7.holds Tryz.pinned (.plain (OpenSpec.ofChange topTrialsSpec)) topTrialsCard

/-- THE TIED CARD OF 'ferruletop.TopSlips'. -/
def topSlipsCard : Claim7 := { stood := { row := topSlipsRow, standIns := [], harness := (true, "929f75d7950b3526680d77ca906a7a6ee9ebbd065c964bf0237a0ffec25b25dd"), looks := true }, kinds := [], alts := [], laidByText := true, laidKinds := [.data, .data, .data, .data, .sentinel, .sentinel, .pinned], laidTests := true, laidLooks := .later }
def TopSlipsCardSaid : Prop := Claim7.holds Tryz.pinned (.plain (OpenSpec.ofChange topSlipsSpec)) topSlipsCard

/-- THE TIED CARD OF 'ferrulelaw12.ForewomanHalves'. -/
def forewomanHalvesCard : Claim7 := { stood := { row := forewomanHalvesRow, standIns := [], harness := (true, "929f75d7950b3526680d77ca906a7a6ee9ebbd065c964bf0237a0ffec25b25dd"), looks := true }, kinds := [], alts := [], laidByText := true, laidKinds := [.data, .data, .data, .data, .sentinel, .sentinel, .pinned], laidTests := true, laidLooks := .later }
def ForewomanHalvesCardSaid : Prop := Claim7.holds Tryz.pinned (.plain (OpenSpec.ofChange forewomanHalvesSpec)) forewomanHalvesCard

/-- THE TIED CARD OF 'ferrulelaw12.ForewomanSlips'. -/
def forewomanSlipsCard : Claim7 := { stood := { row := forewomanSlipsRow, standIns := [], harness := (true, "929f75d7950b3526680d77ca906a7a6ee9ebbd065c964bf0237a0ffec25b25dd"), looks := true }, kinds := [], alts := [], laidByText := true, laidKinds := [.data, .data, .data, .data, .sentinel, .sentinel, .pinned], laidTests := true, laidLooks := .later }
def ForewomanSlipsCardSaid : Prop := Claim7.holds Tryz.pinned (.plain (OpenSpec.ofChange forewomanSlipsSpec)) forewomanSlipsCard

/-- THE TIED CARD OF 'ferrulelaw12.ForewomanAnswers'. -/
def forewomanAnswersCard : Claim7 := { stood := { row := forewomanAnswersRow, standIns := [], harness := (true, "929f75d7950b3526680d77ca906a7a6ee9ebbd065c964bf0237a0ffec25b25dd"), looks := true }, kinds := [], alts := [], laidByText := true, laidKinds := [.data, .data, .data, .data, .sentinel, .sentinel, .pinned], laidTests := true, laidLooks := .later }
def ForewomanAnswersCardSaid : Prop := Claim7.holds Tryz.pinned (.plain (OpenSpec.ofChange forewomanAnswersSpec)) forewomanAnswersCard

/-- THE TIED CARD OF 'ferrulelaw12.ForewomanQuestions'. -/
def forewomanQuestionsCard : Claim7 := { stood := { row := forewomanQuestionsRow, standIns := [], harness := (true, "929f75d7950b3526680d77ca906a7a6ee9ebbd065c964bf0237a0ffec25b25dd"), looks := true }, kinds := [], alts := [], laidByText := true, laidKinds := [.data, .data, .data, .data, .sentinel, .sentinel, .pinned], laidTests := true, laidLooks := .later }
def ForewomanQuestionsCardSaid : Prop := Claim7.holds Tryz.pinned (.plain (OpenSpec.ofChange forewomanQuestionsSpec)) forewomanQuestionsCard

/-- THE TIED CARD OF 'ferrulelaw12.ForewomanTrials'. -/
def forewomanTrialsCard : Claim7 := { stood := { row := forewomanTrialsRow, standIns := [], harness := (true, "929f75d7950b3526680d77ca906a7a6ee9ebbd065c964bf0237a0ffec25b25dd"), looks := true }, kinds := [], alts := [], laidByText := true, laidKinds := [.data, .data, .data, .data, .sentinel, .sentinel, .pinned], laidTests := true, laidLooks := .later }
def ForewomanTrialsCardSaid : Prop := Claim7.holds Tryz.pinned (.plain (OpenSpec.ofChange forewomanTrialsSpec)) forewomanTrialsCard

/-- THE TIED CARD OF 'ferrulelaw12.ForewomanDropped'. -/
def forewomanDroppedCard : Claim7 := { stood := { row := forewomanDroppedRow, standIns := [], harness := (true, "929f75d7950b3526680d77ca906a7a6ee9ebbd065c964bf0237a0ffec25b25dd"), looks := true }, kinds := [], alts := [], laidByText := true, laidKinds := [.data, .data, .data, .data, .sentinel, .sentinel, .pinned], laidTests := true, laidLooks := .later }
def ForewomanDroppedCardSaid : Prop := Claim7.holds Tryz.pinned (.plain (OpenSpec.ofChange forewomanDroppedSpec)) forewomanDroppedCard

/-- THE TIED CARD OF 'ferrulelaw12.ForewomanReplayed'. -/
def forewomanReplayedCard : Claim7 := { stood := { row := forewomanReplayedRow, standIns := [], harness := (true, "929f75d7950b3526680d77ca906a7a6ee9ebbd065c964bf0237a0ffec25b25dd"), looks := true }, kinds := [], alts := [], laidByText := true, laidKinds := [.data, .data, .data, .data, .sentinel, .sentinel, .pinned], laidTests := true, laidLooks := .later }
def ForewomanReplayedCardSaid : Prop := Claim7.holds Tryz.pinned (.plain (OpenSpec.ofChange forewomanReplayedSpec)) forewomanReplayedCard

/-- THE TIED CARD OF 'ferrulelaw12.ForewomanLines'. -/
def forewomanLinesCard : Claim7 := { stood := { row := forewomanLinesRow, standIns := [], harness := (true, "929f75d7950b3526680d77ca906a7a6ee9ebbd065c964bf0237a0ffec25b25dd"), looks := true }, kinds := [], alts := [], laidByText := true, laidKinds := [.data, .data, .data, .data, .sentinel, .sentinel, .pinned], laidTests := true, laidLooks := .later }
def ForewomanLinesCardSaid : Prop := Claim7.holds Tryz.pinned (.plain (OpenSpec.ofChange forewomanLinesSpec)) forewomanLinesCard

/-- THE TIED CARD OF 'ferruletop.TopShop'. -/
def topShopCard : Claim7 := { stood := { row := topShopRow, standIns := [], harness := (true, "929f75d7950b3526680d77ca906a7a6ee9ebbd065c964bf0237a0ffec25b25dd"), looks := true }, kinds := [], alts := [], laidByText := true, laidKinds := [.data, .data, .data, .data, .sentinel, .sentinel, .pinned], laidTests := true, laidLooks := .later }
def TopShopCardSaid : Prop := Claim7.holds Tryz.pinned (.plain (OpenSpec.ofChange topShopSpec)) topShopCard

/-- THE SECOND FORM's CARD OF 'ferruletop.TopTrials'. -/
def topTrialsUptoCard : Claim7 := { stood := { row := topTrialsUptoRow, standIns := [], harness := (true, "929f75d7950b3526680d77ca906a7a6ee9ebbd065c964bf0237a0ffec25b25dd"), looks := true }, kinds := [], alts := [], laidByText := true, laidKinds := [.data, .data, .data, .data, .sentinel, .sentinel, .pinned], laidTests := true, laidLooks := .later }
def TopTrialsUptoCardSaid : Prop := Claim7.holds Tryz.pinned (.plain (OpenSpec.upto topTrialsSpec)) topTrialsUptoCard

/-- THE SECOND FORM's CARD OF 'ferruletop.TopSlips'. -/
def topSlipsUptoCard : Claim7 := { stood := { row := topSlipsUptoRow, standIns := [], harness := (true, "929f75d7950b3526680d77ca906a7a6ee9ebbd065c964bf0237a0ffec25b25dd"), looks := true }, kinds := [], alts := [], laidByText := true, laidKinds := [.data, .data, .data, .data, .sentinel, .sentinel, .pinned], laidTests := true, laidLooks := .later }
def TopSlipsUptoCardSaid : Prop := Claim7.holds Tryz.pinned (.plain (OpenSpec.upto topSlipsSpec)) topSlipsUptoCard

/-- THE SECOND FORM's CARD OF 'ferrulelaw12.ForewomanHalves'. -/
def forewomanHalvesUptoCard : Claim7 := { stood := { row := forewomanHalvesUptoRow, standIns := [], harness := (true, "929f75d7950b3526680d77ca906a7a6ee9ebbd065c964bf0237a0ffec25b25dd"), looks := true }, kinds := [], alts := [], laidByText := true, laidKinds := [.data, .data, .data, .data, .sentinel, .sentinel, .pinned], laidTests := true, laidLooks := .later }
def ForewomanHalvesUptoCardSaid : Prop := Claim7.holds Tryz.pinned (.plain (OpenSpec.upto forewomanHalvesSpec)) forewomanHalvesUptoCard

/-- THE SECOND FORM's CARD OF 'ferrulelaw12.ForewomanSlips'. -/
def forewomanSlipsUptoCard : Claim7 := { stood := { row := forewomanSlipsUptoRow, standIns := [], harness := (true, "929f75d7950b3526680d77ca906a7a6ee9ebbd065c964bf0237a0ffec25b25dd"), looks := true }, kinds := [], alts := [], laidByText := true, laidKinds := [.data, .data, .data, .data, .sentinel, .sentinel, .pinned], laidTests := true, laidLooks := .later }
def ForewomanSlipsUptoCardSaid : Prop := Claim7.holds Tryz.pinned (.plain (OpenSpec.upto forewomanSlipsSpec)) forewomanSlipsUptoCard

/-- THE SECOND FORM's CARD OF 'ferrulelaw12.ForewomanAnswers'. -/
def forewomanAnswersUptoCard : Claim7 := { stood := { row := forewomanAnswersUptoRow, standIns := [], harness := (true, "929f75d7950b3526680d77ca906a7a6ee9ebbd065c964bf0237a0ffec25b25dd"), looks := true }, kinds := [], alts := [], laidByText := true, laidKinds := [.data, .data, .data, .data, .sentinel, .sentinel, .pinned], laidTests := true, laidLooks := .later }
def ForewomanAnswersUptoCardSaid : Prop := Claim7.holds Tryz.pinned (.plain (OpenSpec.upto forewomanAnswersSpec)) forewomanAnswersUptoCard

/-- THE SECOND FORM's CARD OF 'ferrulelaw12.ForewomanQuestions'. -/
def forewomanQuestionsUptoCard : Claim7 := { stood := { row := forewomanQuestionsUptoRow, standIns := [], harness := (true, "929f75d7950b3526680d77ca906a7a6ee9ebbd065c964bf0237a0ffec25b25dd"), looks := true }, kinds := [], alts := [], laidByText := true, laidKinds := [.data, .data, .data, .data, .sentinel, .sentinel, .pinned], laidTests := true, laidLooks := .later }
def ForewomanQuestionsUptoCardSaid : Prop := Claim7.holds Tryz.pinned (.plain (OpenSpec.upto forewomanQuestionsSpec)) forewomanQuestionsUptoCard

/-- THE SECOND FORM's CARD OF 'ferrulelaw12.ForewomanTrials'. -/
def forewomanTrialsUptoCard : Claim7 := { stood := { row := forewomanTrialsUptoRow, standIns := [], harness := (true, "929f75d7950b3526680d77ca906a7a6ee9ebbd065c964bf0237a0ffec25b25dd"), looks := true }, kinds := [], alts := [], laidByText := true, laidKinds := [.data, .data, .data, .data, .sentinel, .sentinel, .pinned], laidTests := true, laidLooks := .later }
def ForewomanTrialsUptoCardSaid : Prop := Claim7.holds Tryz.pinned (.plain (OpenSpec.upto forewomanTrialsSpec)) forewomanTrialsUptoCard

/-- THE SECOND FORM's CARD OF 'ferrulelaw12.ForewomanDropped'. -/
def forewomanDroppedUptoCard : Claim7 := { stood := { row := forewomanDroppedUptoRow, standIns := [], harness := (true, "929f75d7950b3526680d77ca906a7a6ee9ebbd065c964bf0237a0ffec25b25dd"), looks := true }, kinds := [], alts := [], laidByText := true, laidKinds := [.data, .data, .data, .data, .sentinel, .sentinel, .pinned], laidTests := true, laidLooks := .later }
def ForewomanDroppedUptoCardSaid : Prop := Claim7.holds Tryz.pinned (.plain (OpenSpec.upto forewomanDroppedSpec)) forewomanDroppedUptoCard

/-- THE SECOND FORM's CARD OF 'ferrulelaw12.ForewomanReplayed'. -/
def forewomanReplayedUptoCard : Claim7 := { stood := { row := forewomanReplayedUptoRow, standIns := [], harness := (true, "929f75d7950b3526680d77ca906a7a6ee9ebbd065c964bf0237a0ffec25b25dd"), looks := true }, kinds := [], alts := [], laidByText := true, laidKinds := [.data, .data, .data, .data, .sentinel, .sentinel, .pinned], laidTests := true, laidLooks := .later }
def ForewomanReplayedUptoCardSaid : Prop := Claim7.holds Tryz.pinned (.plain (OpenSpec.upto forewomanReplayedSpec)) forewomanReplayedUptoCard

/-- THE SECOND FORM's CARD OF 'ferrulelaw12.ForewomanLines'. -/
def forewomanLinesUptoCard : Claim7 := { stood := { row := forewomanLinesUptoRow, standIns := [], harness := (true, "929f75d7950b3526680d77ca906a7a6ee9ebbd065c964bf0237a0ffec25b25dd"), looks := true }, kinds := [], alts := [], laidByText := true, laidKinds := [.data, .data, .data, .data, .sentinel, .sentinel, .pinned], laidTests := true, laidLooks := .later }
def ForewomanLinesUptoCardSaid : Prop := Claim7.holds Tryz.pinned (.plain (OpenSpec.upto forewomanLinesSpec)) forewomanLinesUptoCard

/-- THE SECOND FORM's CARD OF 'ferruletop.TopShop'. -/
def topShopUptoCard : Claim7 := { stood := { row := topShopUptoRow, standIns := [], harness := (true, "929f75d7950b3526680d77ca906a7a6ee9ebbd065c964bf0237a0ffec25b25dd"), looks := true }, kinds := [], alts := [], laidByText := true, laidKinds := [.data, .data, .data, .data, .sentinel, .sentinel, .pinned], laidTests := true, laidLooks := .later }
def TopShopUptoCardSaid : Prop := Claim7.holds Tryz.pinned (.plain (OpenSpec.upto topShopSpec)) topShopUptoCard
end Rows
end Go.Proofs.YtplfnoecifjgeaaGreatDoor
