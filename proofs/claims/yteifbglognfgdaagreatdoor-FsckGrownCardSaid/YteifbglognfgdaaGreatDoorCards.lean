/-
  DERIVED. GIVEN WITH THE SEED: THE CARDS: each row of YteifbglognfgdaaGreatDoorRows.lean that lists a variable, with what it lists TIED to the program's text (the seventh form; the later family's looks); each row that meets fmt, with fmt's text TOLD by the authors' own Lean function (tested against real Go, not proved from fmt's source: count such statements apart). THE CARD IS WHAT COUNTS. Prove the row's statement (the work); the ties are given (YteifbglognfgdaaGreatDoorTie.lean); close each card by the builder's one call (the guide's Derived/Test/ToyasCard.lean, 'card_holds'). Laid BY PROGRAM, IN A SANDBOX (cutbox-door.mjs). By AI agents, Wed Nov 11 2026. No macro, syntax, notation, axiom, sorry.
-/
import Derived.Test.YteifbglognfgdaaGreatDoorRows
import GoSem.ClaimSeven
namespace Go.Proofs.YteifbglognfgdaaGreatDoor
namespace Rows

/-- THE TIED CARD OF 'coppicelaw22.FsckWhole'. -/
def fsckWholeCard : Claim7 := { stood := { row := fsckWholeRow, standIns := [], harness := (true, "704e7c98c121603444675faa8bb7e9332487293fd122d263f02edbe213cf68a8"), looks := false }, kinds := [], alts := [], laidByText := true, laidKinds := [.widerDeep], laidTests := true, laidLooks := .later }
def FsckWholeCardSaid : Prop := Claim7.holds Tryz.pinned (.plain (OpenSpec.ofChange fsckWholeSpec)) fsckWholeCard

/-- THE TIED CARD OF 'coppicelaw22.FsckGrown'. -/
def fsckGrownCard : Claim7 := { stood := { row := fsckGrownRow, standIns := [], harness := (true, "704e7c98c121603444675faa8bb7e9332487293fd122d263f02edbe213cf68a8"), looks := false }, kinds := [], alts := [], laidByText := true, laidKinds := [.widerDeep], laidTests := true, laidLooks := .later }
def FsckGrownCardSaid : Prop := Claim7.holds Tryz.pinned (.plain (OpenSpec.ofChange fsckGrownSpec)) fsckGrownCard

/-- THE SECOND FORM's CARD OF 'coppicelaw22.FsckWhole'. -/
def fsckWholeUptoCard : Claim7 := { stood := { row := fsckWholeUptoRow, standIns := [], harness := (true, "704e7c98c121603444675faa8bb7e9332487293fd122d263f02edbe213cf68a8"), looks := false }, kinds := [], alts := [], laidByText := true, laidKinds := [.widerDeep], laidTests := true, laidLooks := .later }
def FsckWholeUptoCardSaid : Prop := Claim7.holds Tryz.pinned (.plain (OpenSpec.upto fsckWholeSpec)) fsckWholeUptoCard

/-- THE SECOND FORM's CARD OF 'coppicelaw22.FsckGrown'. -/
def fsckGrownUptoCard : Claim7 := { stood := { row := fsckGrownUptoRow, standIns := [], harness := (true, "704e7c98c121603444675faa8bb7e9332487293fd122d263f02edbe213cf68a8"), looks := false }, kinds := [], alts := [], laidByText := true, laidKinds := [.widerDeep], laidTests := true, laidLooks := .later }
def FsckGrownUptoCardSaid : Prop := Claim7.holds Tryz.pinned (.plain (OpenSpec.upto fsckGrownSpec)) fsckGrownUptoCard
end Rows
end Go.Proofs.YteifbglognfgdaaGreatDoor
