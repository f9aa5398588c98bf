/-
  DERIVED. GIVEN WITH THE SEED: THE CARDS: each row of YtdlmllhkejjaaaaDoorRows.lean that lists a variable, with what it lists TIED to the program's text (the seventh form; the later family's looks); each row that meets fmt, with fmt's text TOLD by the authors' own Lean function (tested against real Go, not proved from fmt's source: count such statements apart). THE CARD IS WHAT COUNTS. Prove the row's statement (the work); the ties are given (YtdlmllhkejjaaaaDoorTie.lean); close each card by the builder's one call (the guide's Derived/Test/ToyasCard.lean, 'card_holds'). Laid BY PROGRAM, IN A SANDBOX (cutbox-door.mjs). By AI agents, Wed Nov 11 2026. No macro, syntax, notation, axiom, sorry.
-/
import Derived.Test.YtdlmllhkejjaaaaDoorRows
import GoSem.ClaimSeven
namespace Go.Proofs.YtdlmllhkejjaaaaDoor
namespace Rows

/-- THE TIED CARD OF 'laws.FnExactTimeText'. -/
def fnExactTimeTextCard : Claim7 := { stood := { row := fnExactTimeTextRow, standIns := [], harness := (true, "def32e56919a94d588ca58f69bfe49ba91dbbd2f4c77ad12103cc498eca6c927"), looks := false }, kinds := [], alts := [], laidByText := true, laidKinds := [.data, .data, .data], laidTests := true, laidLooks := .later }
def FnExactTimeTextCardSaid : Prop := Claim7.holds Tryd.pinned (.plain (OpenSpec.ofChange fnExactTimeTextSpec)) fnExactTimeTextCard

/-- THE TIED CARD OF 'laws.FnExactTimeRead'. -/
def fnExactTimeReadCard : Claim7 := { stood := { row := fnExactTimeReadRow, standIns := [], harness := (true, "def32e56919a94d588ca58f69bfe49ba91dbbd2f4c77ad12103cc498eca6c927"), looks := false }, kinds := [], alts := [], laidByText := true, laidKinds := [.data, .data, .data], laidTests := true, laidLooks := .later }
def FnExactTimeReadCardSaid : Prop := Claim7.holds Tryd.pinned (.plain (OpenSpec.ofChange fnExactTimeReadSpec)) fnExactTimeReadCard

/-- THE TIED CARD OF 'laws.FnTimeBack'. -/
def fnTimeBackCard : Claim7 := { stood := { row := fnTimeBackRow, standIns := [], harness := (true, "def32e56919a94d588ca58f69bfe49ba91dbbd2f4c77ad12103cc498eca6c927"), looks := false }, kinds := [], alts := [], laidByText := true, laidKinds := [.data, .data, .data], laidTests := true, laidLooks := .later }
def FnTimeBackCardSaid : Prop := Claim7.holds Tryd.pinned (.plain (OpenSpec.ofChange fnTimeBackSpec)) fnTimeBackCard

/-- THE SECOND FORM's CARD OF 'laws.FnExactTimeText'. -/
def fnExactTimeTextUptoCard : Claim7 := { stood := { row := fnExactTimeTextUptoRow, standIns := [], harness := (true, "def32e56919a94d588ca58f69bfe49ba91dbbd2f4c77ad12103cc498eca6c927"), looks := false }, kinds := [], alts := [], laidByText := true, laidKinds := [.data, .data, .data], laidTests := true, laidLooks := .later }
def FnExactTimeTextUptoCardSaid : Prop := Claim7.holds Tryd.pinned (.plain (OpenSpec.upto fnExactTimeTextSpec)) fnExactTimeTextUptoCard

/-- THE SECOND FORM's CARD OF 'laws.FnExactTimeRead'. -/
def fnExactTimeReadUptoCard : Claim7 := { stood := { row := fnExactTimeReadUptoRow, standIns := [], harness := (true, "def32e56919a94d588ca58f69bfe49ba91dbbd2f4c77ad12103cc498eca6c927"), looks := false }, kinds := [], alts := [], laidByText := true, laidKinds := [.data, .data, .data], laidTests := true, laidLooks := .later }
def FnExactTimeReadUptoCardSaid : Prop := Claim7.holds Tryd.pinned (.plain (OpenSpec.upto fnExactTimeReadSpec)) fnExactTimeReadUptoCard

/-- THE SECOND FORM's CARD OF 'laws.FnTimeBack'. -/
def fnTimeBackUptoCard : Claim7 := { stood := { row := fnTimeBackUptoRow, standIns := [], harness := (true, "def32e56919a94d588ca58f69bfe49ba91dbbd2f4c77ad12103cc498eca6c927"), looks := false }, kinds := [], alts := [], laidByText := true, laidKinds := [.data, .data, .data], laidTests := true, laidLooks := .later }
def FnTimeBackUptoCardSaid : Prop := Claim7.holds Tryd.pinned (.plain (OpenSpec.upto fnTimeBackSpec)) fnTimeBackUptoCard
end Rows
end Go.Proofs.YtdlmllhkejjaaaaDoor
