/-
  DERIVED. GIVEN WITH THE SEED: THE CARDS: each row of YtbmkpnabhodggaaDoorRows.lean that lists a variable, with what it lists TIED to the program's text (the seventh form; the later family's looks); each row that meets fmt, with fmt's text TOLD by the authors' own Lean function (tested against real Go, not proved from fmt's source: count such statements apart). THE CARD IS WHAT COUNTS. Prove the row's statement (the work); the ties are given (YtbmkpnabhodggaaDoorTie.lean); close each card by the builder's one call (the guide's Derived/Test/ToyasCard.lean, 'card_holds'). Laid BY PROGRAM, IN A SANDBOX (cutbox-door.mjs). By AI agents, Wed Nov 11 2026. No macro, syntax, notation, axiom, sorry.
-/
import Derived.Test.YtbmkpnabhodggaaDoorRows
import GoSem.ClaimSeven
namespace Go.Proofs.YtbmkpnabhodggaaDoor
namespace Rows

/-- THE TIED CARD OF 'laws.FnExactWordsText'. -/
def fnExactWordsTextCard : Claim7 := { stood := { row := fnExactWordsTextRow, standIns := [], harness := (true, "1695d6e2ebd8b8ad4479366facd79d40d4e3de14c846408cdf368ca97e138133"), looks := true }, kinds := [], alts := [], laidByText := true, laidKinds := [.data, .data, .data], laidTests := true, laidLooks := .later }
def FnExactWordsTextCardSaid : Prop := Claim7.holds Tryd.pinned (.plain (OpenSpec.ofChange fnExactWordsTextSpec)) fnExactWordsTextCard

/-- THE TIED CARD OF 'laws.FnExactAnsText'. -/
def fnExactAnsTextCard : Claim7 := { stood := { row := fnExactAnsTextRow, standIns := [], harness := (true, "1695d6e2ebd8b8ad4479366facd79d40d4e3de14c846408cdf368ca97e138133"), looks := true }, kinds := [], alts := [], laidByText := true, laidKinds := [.data, .data, .data], laidTests := true, laidLooks := .later }
def FnExactAnsTextCardSaid : Prop := Claim7.holds Tryd.pinned (.plain (OpenSpec.ofChange fnExactAnsTextSpec)) fnExactAnsTextCard

/-- THE TIED CARD OF 'laws.FnExactCmdText'. -/
def fnExactCmdTextCard : Claim7 := { stood := { row := fnExactCmdTextRow, standIns := [], harness := (true, "1695d6e2ebd8b8ad4479366facd79d40d4e3de14c846408cdf368ca97e138133"), looks := true }, kinds := [], alts := [], laidByText := true, laidKinds := [.data, .data, .data], laidTests := true, laidLooks := .later }
def FnExactCmdTextCardSaid : Prop := Claim7.holds Tryd.pinned (.plain (OpenSpec.ofChange fnExactCmdTextSpec)) fnExactCmdTextCard

/-- THE TIED CARD OF 'laws.FnExactParseWords'. -/
def fnExactParseWordsCard : Claim7 := { stood := { row := fnExactParseWordsRow, standIns := [], harness := (true, "1695d6e2ebd8b8ad4479366facd79d40d4e3de14c846408cdf368ca97e138133"), looks := true }, kinds := [], alts := [], laidByText := true, laidKinds := [.data, .data, .data, .data, .sentinel, .sentinel, .pinned], laidTests := true, laidLooks := .later }
def FnExactParseWordsCardSaid : Prop := Claim7.holds Tryd.pinned (.plain (OpenSpec.ofChange fnExactParseWordsSpec)) fnExactParseWordsCard

/-- THE SECOND FORM's CARD OF 'laws.FnExactWordsText'. -/
def fnExactWordsTextUptoCard : Claim7 := { stood := { row := fnExactWordsTextUptoRow, standIns := [], harness := (true, "1695d6e2ebd8b8ad4479366facd79d40d4e3de14c846408cdf368ca97e138133"), looks := true }, kinds := [], alts := [], laidByText := true, laidKinds := [.data, .data, .data], laidTests := true, laidLooks := .later }
def FnExactWordsTextUptoCardSaid : Prop := Claim7.holds Tryd.pinned (.plain (OpenSpec.upto fnExactWordsTextSpec)) fnExactWordsTextUptoCard

/-- THE SECOND FORM's CARD OF 'laws.FnExactAnsText'. -/
def fnExactAnsTextUptoCard : Claim7 := { stood := { row := fnExactAnsTextUptoRow, standIns := [], harness := (true, "1695d6e2ebd8b8ad4479366facd79d40d4e3de14c846408cdf368ca97e138133"), looks := true }, kinds := [], alts := [], laidByText := true, laidKinds := [.data, .data, .data], laidTests := true, laidLooks := .later }
def FnExactAnsTextUptoCardSaid : Prop := Claim7.holds Tryd.pinned (.plain (OpenSpec.upto fnExactAnsTextSpec)) fnExactAnsTextUptoCard

/-- THE SECOND FORM's CARD OF 'laws.FnExactCmdText'. -/
def fnExactCmdTextUptoCard : Claim7 := { stood := { row := fnExactCmdTextUptoRow, standIns := [], harness := (true, "1695d6e2ebd8b8ad4479366facd79d40d4e3de14c846408cdf368ca97e138133"), looks := true }, kinds := [], alts := [], laidByText := true, laidKinds := [.data, .data, .data], laidTests := true, laidLooks := .later }
def FnExactCmdTextUptoCardSaid : Prop := Claim7.holds Tryd.pinned (.plain (OpenSpec.upto fnExactCmdTextSpec)) fnExactCmdTextUptoCard

/-- THE SECOND FORM's CARD OF 'laws.FnExactParseWords'. -/
def fnExactParseWordsUptoCard : Claim7 := { stood := { row := fnExactParseWordsUptoRow, standIns := [], harness := (true, "1695d6e2ebd8b8ad4479366facd79d40d4e3de14c846408cdf368ca97e138133"), looks := true }, kinds := [], alts := [], laidByText := true, laidKinds := [.data, .data, .data, .data, .sentinel, .sentinel, .pinned], laidTests := true, laidLooks := .later }
def FnExactParseWordsUptoCardSaid : Prop := Claim7.holds Tryd.pinned (.plain (OpenSpec.upto fnExactParseWordsSpec)) fnExactParseWordsUptoCard
end Rows
end Go.Proofs.YtbmkpnabhodggaaDoor
