/-
  DERIVED. GIVEN WITH THE SEED: THE CARDS: each row of YtpennfkjfeipcaaDoorRows.lean that lists a variable, with what it lists TIED to the program's text (the seventh form; the later family's looks); each row that meets fmt, with fmt's text TOLD by the authors' own Lean function (tested against real Go, not proved from fmt's source: count such statements apart). THE CARD IS WHAT COUNTS. Prove the row's statement (the work); the ties are given (YtpennfkjfeipcaaDoorTie.lean); close each card by the builder's one call (the guide's Derived/Test/ToyasCard.lean, 'card_holds'). Laid BY PROGRAM, IN A SANDBOX (cutbox-door.mjs). By AI agents, Wed Nov 11 2026. No macro, syntax, notation, axiom, sorry.
-/
import Derived.Test.YtpennfkjfeipcaaDoorRows
import GoSem.ClaimSeven
namespace Go.Proofs.YtpennfkjfeipcaaDoor
namespace Rows

/-- THE TIED CARD OF 'laws.FnExactFindBox'. -/
def fnExactFindBoxCard : Claim7 := { stood := { row := fnExactFindBoxRow, standIns := [], harness := (true, "e3be3ea42524f9d7911db164748138e136f269f8f63e5707d2db0146b4c46544"), looks := false }, kinds := [], alts := [], laidByText := true, laidKinds := [.data, .pinned], laidTests := true, laidLooks := .later }
def FnExactFindBoxCardSaid : Prop := Claim7.holds Tryd.pinned (.plain (OpenSpec.ofChange fnExactFindBoxSpec)) fnExactFindBoxCard

/-- THE TIED CARD OF 'laws.FnFound'. -/
def fnFoundCard : Claim7 := { stood := { row := fnFoundRow, standIns := [], harness := (true, "e3be3ea42524f9d7911db164748138e136f269f8f63e5707d2db0146b4c46544"), looks := false }, kinds := [], alts := [], laidByText := true, laidKinds := [.data, .pinned], laidTests := true, laidLooks := .later }
def FnFoundCardSaid : Prop := Claim7.holds Tryd.pinned (.plain (OpenSpec.ofChange fnFoundSpec)) fnFoundCard

/-- THE SECOND FORM's CARD OF 'laws.FnExactFindBox'. -/
def fnExactFindBoxUptoCard : Claim7 := { stood := { row := fnExactFindBoxUptoRow, standIns := [], harness := (true, "e3be3ea42524f9d7911db164748138e136f269f8f63e5707d2db0146b4c46544"), looks := false }, kinds := [], alts := [], laidByText := true, laidKinds := [.data, .pinned], laidTests := true, laidLooks := .later }
def FnExactFindBoxUptoCardSaid : Prop := Claim7.holds Tryd.pinned (.plain (OpenSpec.upto fnExactFindBoxSpec)) fnExactFindBoxUptoCard

/-- THE SECOND FORM's CARD OF 'laws.FnFound'. -/
def fnFoundUptoCard : Claim7 := { stood := { row := fnFoundUptoRow, standIns := [], harness := (true, "e3be3ea42524f9d7911db164748138e136f269f8f63e5707d2db0146b4c46544"), looks := false }, kinds := [], alts := [], laidByText := true, laidKinds := [.data, .pinned], laidTests := true, laidLooks := .later }
def FnFoundUptoCardSaid : Prop := Claim7.holds Tryd.pinned (.plain (OpenSpec.upto fnFoundSpec)) fnFoundUptoCard
end Rows
end Go.Proofs.YtpennfkjfeipcaaDoor
