/-
  DERIVED. GIVEN WITH THE SEED: THE CARDS: each row of YtcmcopieagpppaaGreatDoorRows.lean that lists a variable, with what it lists TIED to the program's text (the seventh form; the later family's looks); each row that meets fmt, with fmt's text TOLD by the authors' own Lean function (tested against real Go, not proved from fmt's source: count such statements apart). THE CARD IS WHAT COUNTS. Prove the row's statement (the work); the ties are given (YtcmcopieagpppaaGreatDoorTie.lean); close each card by the builder's one call (the guide's Derived/Test/ToyasCard.lean, 'card_holds'). Laid BY PROGRAM, IN A SANDBOX (cutbox-door.mjs). By AI agents, Wed Nov 11 2026. No macro, syntax, notation, axiom, sorry.
-/
import Derived.Test.YtcmcopieagpppaaGreatDoorRows
import GoSem.ClaimSeven
namespace Go.Proofs.YtcmcopieagpppaaGreatDoor
namespace Rows

/-- THE TIED CARD OF 'parapetlaw16.DirectMore'. -/
def directMoreCard : Claim7 := { stood := { row := directMoreRow, standIns := [], harness := (true, "0f925fd4efe9bc0ce0f1006b1b323dd7f8c30e5ee9fe71d7e0080f74a79fbc1b"), looks := true }, kinds := [], alts := [], laidByText := true, laidKinds := [.data, .pinned], laidTests := true, laidLooks := .later }
def DirectMoreCardSaid : Prop := Claim7.holds Tryz.pinned (.plain (OpenSpec.ofChange directMoreSpec)) directMoreCard

/-- THE TIED CARD OF 'parapetlaw11.UrlParses'. -/
def urlParsesCard : Claim7 := { stood := { row := urlParsesRow, standIns := [], harness := (true, "0f925fd4efe9bc0ce0f1006b1b323dd7f8c30e5ee9fe71d7e0080f74a79fbc1b"), looks := true }, kinds := [], alts := [], laidByText := true, laidKinds := [.data, .pinned], laidTests := true, laidLooks := .later }
def UrlParsesCardSaid : Prop := Claim7.holds Tryz.pinned (.plain (OpenSpec.ofChange urlParsesSpec)) urlParsesCard

/-- THE TIED CARD OF 'parapetlaw11.UrlTexts'. -/
def urlTextsCard : Claim7 := { stood := { row := urlTextsRow, standIns := [], harness := (true, "0f925fd4efe9bc0ce0f1006b1b323dd7f8c30e5ee9fe71d7e0080f74a79fbc1b"), looks := true }, kinds := [], alts := [], laidByText := true, laidKinds := [.data, .pinned], laidTests := true, laidLooks := .later }
def UrlTextsCardSaid : Prop := Claim7.holds Tryz.pinned (.plain (OpenSpec.ofChange urlTextsSpec)) urlTextsCard

/-- THE TIED CARD OF 'parapetlaw11.UrlBack'. -/
def urlBackCard : Claim7 := { stood := { row := urlBackRow, standIns := [], harness := (true, "0f925fd4efe9bc0ce0f1006b1b323dd7f8c30e5ee9fe71d7e0080f74a79fbc1b"), looks := true }, kinds := [], alts := [], laidByText := true, laidKinds := [.data, .pinned], laidTests := true, laidLooks := .later }
def UrlBackCardSaid : Prop := Claim7.holds Tryz.pinned (.plain (OpenSpec.ofChange urlBackSpec)) urlBackCard

/-- THE TIED CARD OF 'parapetlaw11.UrlBlanks'. -/
def urlBlanksCard : Claim7 := { stood := { row := urlBlanksRow, standIns := [], harness := (true, "0f925fd4efe9bc0ce0f1006b1b323dd7f8c30e5ee9fe71d7e0080f74a79fbc1b"), looks := true }, kinds := [], alts := [], laidByText := true, laidKinds := [.data, .pinned], laidTests := true, laidLooks := .later }
def UrlBlanksCardSaid : Prop := Claim7.holds Tryz.pinned (.plain (OpenSpec.ofChange urlBlanksSpec)) urlBlanksCard

/-- THE TIED CARD OF 'parapetlaw11.UrlDots'. -/
def urlDotsCard : Claim7 := { stood := { row := urlDotsRow, standIns := [], harness := (true, "0f925fd4efe9bc0ce0f1006b1b323dd7f8c30e5ee9fe71d7e0080f74a79fbc1b"), looks := true }, kinds := [], alts := [], laidByText := true, laidKinds := [.data, .pinned], laidTests := true, laidLooks := .later }
def UrlDotsCardSaid : Prop := Claim7.holds Tryz.pinned (.plain (OpenSpec.ofChange urlDotsSpec)) urlDotsCard

/-- THE TIED CARD OF 'parapetlaw11.UrlParts'. -/
def urlPartsCard : Claim7 := { stood := { row := urlPartsRow, standIns := [], harness := (true, "0f925fd4efe9bc0ce0f1006b1b323dd7f8c30e5ee9fe71d7e0080f74a79fbc1b"), looks := true }, kinds := [], alts := [], laidByText := true, laidKinds := [.data, .pinned], laidTests := true, laidLooks := .later }
def UrlPartsCardSaid : Prop := Claim7.holds Tryz.pinned (.plain (OpenSpec.ofChange urlPartsSpec)) urlPartsCard

/-- THE TIED CARD OF 'parapetlaw12.OriginTexts'. -/
def originTextsCard : Claim7 := { stood := { row := originTextsRow, standIns := [], harness := (true, "0f925fd4efe9bc0ce0f1006b1b323dd7f8c30e5ee9fe71d7e0080f74a79fbc1b"), looks := true }, kinds := [], alts := [], laidByText := true, laidKinds := [.data, .pinned], laidTests := true, laidLooks := .later }
def OriginTextsCardSaid : Prop := Claim7.holds Tryz.pinned (.plain (OpenSpec.ofChange originTextsSpec)) originTextsCard

/-- THE TIED CARD OF 'parapetlaw12.OriginKinds'. -/
def originKindsCard : Claim7 := { stood := { row := originKindsRow, standIns := [], harness := (true, "0f925fd4efe9bc0ce0f1006b1b323dd7f8c30e5ee9fe71d7e0080f74a79fbc1b"), looks := true }, kinds := [], alts := [], laidByText := true, laidKinds := [.data, .pinned], laidTests := true, laidLooks := .later }
def OriginKindsCardSaid : Prop := Claim7.holds Tryz.pinned (.plain (OpenSpec.ofChange originKindsSpec)) originKindsCard

/-- THE TIED CARD OF 'parapetlaw12.OriginPlain'. -/
def originPlainCard : Claim7 := { stood := { row := originPlainRow, standIns := [], harness := (true, "0f925fd4efe9bc0ce0f1006b1b323dd7f8c30e5ee9fe71d7e0080f74a79fbc1b"), looks := true }, kinds := [], alts := [], laidByText := true, laidKinds := [.data, .pinned], laidTests := true, laidLooks := .later }
def OriginPlainCardSaid : Prop := Claim7.holds Tryz.pinned (.plain (OpenSpec.ofChange originPlainSpec)) originPlainCard

/-- THE TIED CARD OF 'parapetlaw12.OriginTrusts'. -/
def originTrustsCard : Claim7 := { stood := { row := originTrustsRow, standIns := [], harness := (true, "0f925fd4efe9bc0ce0f1006b1b323dd7f8c30e5ee9fe71d7e0080f74a79fbc1b"), looks := true }, kinds := [], alts := [], laidByText := true, laidKinds := [.data, .pinned], laidTests := true, laidLooks := .later }
def OriginTrustsCardSaid : Prop := Claim7.holds Tryz.pinned (.plain (OpenSpec.ofChange originTrustsSpec)) originTrustsCard

/-- THE TIED CARD OF 'parapetlaw12.OriginParses'. -/
def originParsesCard : Claim7 := { stood := { row := originParsesRow, standIns := [], harness := (true, "0f925fd4efe9bc0ce0f1006b1b323dd7f8c30e5ee9fe71d7e0080f74a79fbc1b"), looks := true }, kinds := [], alts := [], laidByText := true, laidKinds := [.data, .pinned], laidTests := true, laidLooks := .later }
def OriginParsesCardSaid : Prop := Claim7.holds Tryz.pinned (.plain (OpenSpec.ofChange originParsesSpec)) originParsesCard

/-- THE TIED CARD OF 'parapetlaw12.OriginBack'. -/
def originBackCard : Claim7 := { stood := { row := originBackRow, standIns := [], harness := (true, "0f925fd4efe9bc0ce0f1006b1b323dd7f8c30e5ee9fe71d7e0080f74a79fbc1b"), looks := true }, kinds := [], alts := [], laidByText := true, laidKinds := [.data, .pinned], laidTests := true, laidLooks := .later }
def OriginBackCardSaid : Prop := Claim7.holds Tryz.pinned (.plain (OpenSpec.ofChange originBackSpec)) originBackCard

/-- THE SECOND FORM's CARD OF 'parapetlaw16.DirectMore'. -/
def directMoreUptoCard : Claim7 := { stood := { row := directMoreUptoRow, standIns := [], harness := (true, "0f925fd4efe9bc0ce0f1006b1b323dd7f8c30e5ee9fe71d7e0080f74a79fbc1b"), looks := true }, kinds := [], alts := [], laidByText := true, laidKinds := [.data, .pinned], laidTests := true, laidLooks := .later }
def DirectMoreUptoCardSaid : Prop := Claim7.holds Tryz.pinned (.plain (OpenSpec.upto directMoreSpec)) directMoreUptoCard

/-- THE SECOND FORM's CARD OF 'parapetlaw11.UrlParses'. -/
def urlParsesUptoCard : Claim7 := { stood := { row := urlParsesUptoRow, standIns := [], harness := (true, "0f925fd4efe9bc0ce0f1006b1b323dd7f8c30e5ee9fe71d7e0080f74a79fbc1b"), looks := true }, kinds := [], alts := [], laidByText := true, laidKinds := [.data, .pinned], laidTests := true, laidLooks := .later }
def UrlParsesUptoCardSaid : Prop := Claim7.holds Tryz.pinned (.plain (OpenSpec.upto urlParsesSpec)) urlParsesUptoCard

/-- THE SECOND FORM's CARD OF 'parapetlaw11.UrlTexts'. -/
def urlTextsUptoCard : Claim7 := { stood := { row := urlTextsUptoRow, standIns := [], harness := (true, "0f925fd4efe9bc0ce0f1006b1b323dd7f8c30e5ee9fe71d7e0080f74a79fbc1b"), looks := true }, kinds := [], alts := [], laidByText := true, laidKinds := [.data, .pinned], laidTests := true, laidLooks := .later }
def UrlTextsUptoCardSaid : Prop := Claim7.holds Tryz.pinned (.plain (OpenSpec.upto urlTextsSpec)) urlTextsUptoCard

/-- THE SECOND FORM's CARD OF 'parapetlaw11.UrlBack'. -/
def urlBackUptoCard : Claim7 := { stood := { row := urlBackUptoRow, standIns := [], harness := (true, "0f925fd4efe9bc0ce0f1006b1b323dd7f8c30e5ee9fe71d7e0080f74a79fbc1b"), looks := true }, kinds := [], alts := [], laidByText := true, laidKinds := [.data, .pinned], laidTests := true, laidLooks := .later }
def UrlBackUptoCardSaid : Prop := Claim7.holds Tryz.pinned (.plain (OpenSpec.upto urlBackSpec)) urlBackUptoCard

/-- THE SECOND FORM's CARD OF 'parapetlaw11.UrlBlanks'. -/
def urlBlanksUptoCard : Claim7 := { stood := { row := urlBlanksUptoRow, standIns := [], harness := (true, "0f925fd4efe9bc0ce0f1006b1b323dd7f8c30e5ee9fe71d7e0080f74a79fbc1b"), looks := true }, kinds := [], alts := [], laidByText := true, laidKinds := [.data, .pinned], laidTests := true, laidLooks := .later }
def UrlBlanksUptoCardSaid : Prop := Claim7.holds Tryz.pinned (.plain (OpenSpec.upto urlBlanksSpec)) urlBlanksUptoCard

/-- THE SECOND FORM's CARD OF 'parapetlaw11.UrlDots'. -/
def urlDotsUptoCard : Claim7 := { stood := { row := urlDotsUptoRow, standIns := [], harness := (true, "0f925fd4efe9bc0ce0f1006b1b323dd7f8c30e5ee9fe71d7e0080f74a79fbc1b"), looks := true }, kinds := [], alts := [], laidByText := true, laidKinds := [.data, .pinned], laidTests := true, laidLooks := .later }
def UrlDotsUptoCardSaid : Prop := Claim7.holds Tryz.pinned (.plain (OpenSpec.upto urlDotsSpec)) urlDotsUptoCard

/-- THE SECOND FORM's CARD OF 'parapetlaw11.UrlParts'. -/
def urlPartsUptoCard : Claim7 := { stood := { row := urlPartsUptoRow, standIns := [], harness := (true, "0f925fd4efe9bc0ce0f1006b1b323dd7f8c30e5ee9fe71d7e0080f74a79fbc1b"), looks := true }, kinds := [], alts := [], laidByText := true, laidKinds := [.data, .pinned], laidTests := true, laidLooks := .later }
def UrlPartsUptoCardSaid : Prop := Claim7.holds Tryz.pinned (.plain (OpenSpec.upto urlPartsSpec)) urlPartsUptoCard

/-- THE SECOND FORM's CARD OF 'parapetlaw12.OriginTexts'. -/
def originTextsUptoCard : Claim7 := { stood := { row := originTextsUptoRow, standIns := [], harness := (true, "0f925fd4efe9bc0ce0f1006b1b323dd7f8c30e5ee9fe71d7e0080f74a79fbc1b"), looks := true }, kinds := [], alts := [], laidByText := true, laidKinds := [.data, .pinned], laidTests := true, laidLooks := .later }
def OriginTextsUptoCardSaid : Prop := Claim7.holds Tryz.pinned (.plain (OpenSpec.upto originTextsSpec)) originTextsUptoCard

/-- THE SECOND FORM's CARD OF 'parapetlaw12.OriginKinds'. -/
def originKindsUptoCard : Claim7 := { stood := { row := originKindsUptoRow, standIns := [], harness := (true, "0f925fd4efe9bc0ce0f1006b1b323dd7f8c30e5ee9fe71d7e0080f74a79fbc1b"), looks := true }, kinds := [], alts := [], laidByText := true, laidKinds := [.data, .pinned], laidTests := true, laidLooks := .later }
def OriginKindsUptoCardSaid : Prop := Claim7.holds Tryz.pinned (.plain (OpenSpec.upto originKindsSpec)) originKindsUptoCard

/-- THE SECOND FORM's CARD OF 'parapetlaw12.OriginPlain'. -/
def originPlainUptoCard : Claim7 := { stood := { row := originPlainUptoRow, standIns := [], harness := (true, "0f925fd4efe9bc0ce0f1006b1b323dd7f8c30e5ee9fe71d7e0080f74a79fbc1b"), looks := true }, kinds := [], alts := [], laidByText := true, laidKinds := [.data, .pinned], laidTests := true, laidLooks := .later }
def OriginPlainUptoCardSaid : Prop := Claim7.holds Tryz.pinned (.plain (OpenSpec.upto originPlainSpec)) originPlainUptoCard

/-- THE SECOND FORM's CARD OF 'parapetlaw12.OriginTrusts'. -/
def originTrustsUptoCard : Claim7 := { stood := { row := originTrustsUptoRow, standIns := [], harness := (true, "0f925fd4efe9bc0ce0f1006b1b323dd7f8c30e5ee9fe71d7e0080f74a79fbc1b"), looks := true }, kinds := [], alts := [], laidByText := true, laidKinds := [.data, .pinned], laidTests := true, laidLooks := .later }
def OriginTrustsUptoCardSaid : Prop := Claim7.holds Tryz.pinned (.plain (OpenSpec.upto originTrustsSpec)) originTrustsUptoCard

/-- THE SECOND FORM's CARD OF 'parapetlaw12.OriginParses'. -/
def originParsesUptoCard : Claim7 := { stood := { row := originParsesUptoRow, standIns := [], harness := (true, "0f925fd4efe9bc0ce0f1006b1b323dd7f8c30e5ee9fe71d7e0080f74a79fbc1b"), looks := true }, kinds := [], alts := [], laidByText := true, laidKinds := [.data, .pinned], laidTests := true, laidLooks := .later }
def OriginParsesUptoCardSaid : Prop := Claim7.holds Tryz.pinned (.plain (OpenSpec.upto originParsesSpec)) originParsesUptoCard

/-- THE SECOND FORM's CARD OF 'parapetlaw12.OriginBack'. -/
def originBackUptoCard : Claim7 := { stood := { row := originBackUptoRow, standIns := [], harness := (true, "0f925fd4efe9bc0ce0f1006b1b323dd7f8c30e5ee9fe71d7e0080f74a79fbc1b"), looks := true }, kinds := [], alts := [], laidByText := true, laidKinds := [.data, .pinned], laidTests := true, laidLooks := .later }
def OriginBackUptoCardSaid : Prop := Claim7.holds Tryz.pinned (.plain (OpenSpec.upto originBackSpec)) originBackUptoCard
end Rows
end Go.Proofs.YtcmcopieagpppaaGreatDoor
