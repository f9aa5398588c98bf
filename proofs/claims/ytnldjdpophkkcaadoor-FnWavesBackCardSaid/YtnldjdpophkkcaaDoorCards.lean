/-
  DERIVED. GIVEN WITH THE SEED: THE CARDS: each row of YtnldjdpophkkcaaDoorRows.lean that lists a variable, with what it lists TIED to the program's text (the seventh form; the later family's looks); each row that meets fmt, with fmt's text TOLD by the authors' own Lean function (tested against real Go, not proved from fmt's source: count such statements apart). THE CARD IS WHAT COUNTS. Prove the row's statement (the work); the ties are given (YtnldjdpophkkcaaDoorTie.lean); close each card by the builder's one call (the guide's Derived/Test/ToyasCard.lean, 'card_holds'). Laid BY PROGRAM, IN A SANDBOX (cutbox-door.mjs). By AI agents, Wed Nov 11 2026. No macro, syntax, notation, axiom, sorry.
-/
import Derived.Test.YtnldjdpophkkcaaDoorRows
import GoSem.ClaimSeven
namespace Go.Proofs.YtnldjdpophkkcaaDoor
namespace Rows

/-- THE TIED CARD OF 'laws.FnWavesBack'. -/
def fnWavesBackCard : Claim7 := { stood := { row := fnWavesBackRow, standIns := [], harness := (true, "1ea32431cf1f387593ab87b7e6f0c3db94b513ee6fcfc34c625be99287b5e1b7"), looks := false }, kinds := [], alts := [], laidByText := true, laidKinds := [.data], laidTests := true, laidLooks := .later }
def FnWavesBackCardSaid : Prop := Claim7.holds Tryd.pinned (.plain (OpenSpec.ofChange fnWavesBackSpec)) fnWavesBackCard

/-- THE TIED CARD OF 'laws.FnExactWaves'. -/
def fnExactWavesCard : Claim7 := { stood := { row := fnExactWavesRow, standIns := [], harness := (true, "1ea32431cf1f387593ab87b7e6f0c3db94b513ee6fcfc34c625be99287b5e1b7"), looks := false }, kinds := [], alts := [], laidByText := true, laidKinds := [.data], laidTests := true, laidLooks := .later }
def FnExactWavesCardSaid : Prop := Claim7.holds Tryd.pinned (.plain (OpenSpec.ofChange fnExactWavesSpec)) fnExactWavesCard

/-- THE TIED CARD OF 'laws.FnExactBack'. -/
def fnExactBackCard : Claim7 := { stood := { row := fnExactBackRow, standIns := [], harness := (true, "1ea32431cf1f387593ab87b7e6f0c3db94b513ee6fcfc34c625be99287b5e1b7"), looks := false }, kinds := [], alts := [], laidByText := true, laidKinds := [.data], laidTests := true, laidLooks := .later }
def FnExactBackCardSaid : Prop := Claim7.holds Tryd.pinned (.plain (OpenSpec.ofChange fnExactBackSpec)) fnExactBackCard

/-- THE SECOND FORM's CARD OF 'laws.FnWavesBack'. -/
def fnWavesBackUptoCard : Claim7 := { stood := { row := fnWavesBackUptoRow, standIns := [], harness := (true, "1ea32431cf1f387593ab87b7e6f0c3db94b513ee6fcfc34c625be99287b5e1b7"), looks := false }, kinds := [], alts := [], laidByText := true, laidKinds := [.data], laidTests := true, laidLooks := .later }
def FnWavesBackUptoCardSaid : Prop := Claim7.holds Tryd.pinned (.plain (OpenSpec.upto fnWavesBackSpec)) fnWavesBackUptoCard

/-- THE SECOND FORM's CARD OF 'laws.FnExactWaves'. -/
def fnExactWavesUptoCard : Claim7 := { stood := { row := fnExactWavesUptoRow, standIns := [], harness := (true, "1ea32431cf1f387593ab87b7e6f0c3db94b513ee6fcfc34c625be99287b5e1b7"), looks := false }, kinds := [], alts := [], laidByText := true, laidKinds := [.data], laidTests := true, laidLooks := .later }
def FnExactWavesUptoCardSaid : Prop := Claim7.holds Tryd.pinned (.plain (OpenSpec.upto fnExactWavesSpec)) fnExactWavesUptoCard

/-- THE SECOND FORM's CARD OF 'laws.FnExactBack'. -/
def fnExactBackUptoCard : Claim7 := { stood := { row := fnExactBackUptoRow, standIns := [], harness := (true, "1ea32431cf1f387593ab87b7e6f0c3db94b513ee6fcfc34c625be99287b5e1b7"), looks := false }, kinds := [], alts := [], laidByText := true, laidKinds := [.data], laidTests := true, laidLooks := .later }
def FnExactBackUptoCardSaid : Prop := Claim7.holds Tryd.pinned (.plain (OpenSpec.upto fnExactBackSpec)) fnExactBackUptoCard
end Rows
end Go.Proofs.YtnldjdpophkkcaaDoor
