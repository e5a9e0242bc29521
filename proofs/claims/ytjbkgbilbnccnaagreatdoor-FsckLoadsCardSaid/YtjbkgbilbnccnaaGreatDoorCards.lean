/-
  DERIVED. GIVEN WITH THE SEED: THE CARDS: each row of YtjbkgbilbnccnaaGreatDoorRows.lean that lists a variable, with what it lists TIED to the program's text (the seventh form; the later family's looks); each row that meets fmt, with fmt's text TOLD by the authors' own Lean function (tested against real Go, not proved from fmt's source: count such statements apart). THE CARD IS WHAT COUNTS. Prove the row's statement (the work); the ties are given (YtjbkgbilbnccnaaGreatDoorTie.lean); close each card by the builder's one call (the guide's Derived/Test/ToyasCard.lean, 'card_holds'). Laid BY PROGRAM, IN A SANDBOX (cutbox-door.mjs). By AI agents, Wed Nov 11 2026. No macro, syntax, notation, axiom, sorry.
-/
import Derived.Test.YtjbkgbilbnccnaaGreatDoorRows
import GoSem.ClaimSeven
namespace Go.Proofs.YtjbkgbilbnccnaaGreatDoor
namespace Rows

/-- THE TIED CARD OF 'coppicelaw22.FsckWhole'. -/
def fsckWholeCard : Claim7 := { stood := { row := fsckWholeRow, standIns := [], harness := (true, "21946087f199bd93ea9d3d5fd9d7f2a7c06fe72fef1240ab55ee3890a036e438"), looks := true }, kinds := [], alts := [], laidByText := true, laidKinds := [.widerDeep], laidTests := true, laidLooks := .later }
def FsckWholeCardSaid : Prop := Claim7.holds Tryz.pinned (.plain (OpenSpec.ofChange fsckWholeSpec)) fsckWholeCard

/-- THE TIED CARD OF 'coppicelaw22.FsckGrown'. -/
def fsckGrownCard : Claim7 := { stood := { row := fsckGrownRow, standIns := [], harness := (true, "21946087f199bd93ea9d3d5fd9d7f2a7c06fe72fef1240ab55ee3890a036e438"), looks := true }, kinds := [], alts := [], laidByText := true, laidKinds := [.widerDeep], laidTests := true, laidLooks := .later }
def FsckGrownCardSaid : Prop := Claim7.holds Tryz.pinned (.plain (OpenSpec.ofChange fsckGrownSpec)) fsckGrownCard

/-- THE TIED CARD OF 'coppicelaw22.FsckFinds'. -/
def fsckFindsCard : Claim7 := { stood := { row := fsckFindsRow, standIns := [], harness := (true, "21946087f199bd93ea9d3d5fd9d7f2a7c06fe72fef1240ab55ee3890a036e438"), looks := true }, kinds := [], alts := [], laidByText := true, laidKinds := [.handle, .widerDeep], laidTests := true, laidLooks := .later }
def FsckFindsCardSaid : Prop := Claim7.holds Tryz.pinned (.plain (OpenSpec.ofChange fsckFindsSpec)) fsckFindsCard

/-- THE TIED CARD OF 'coppicelaw22.FsckLoads'. -/
def fsckLoadsCard : Claim7 := { stood := { row := fsckLoadsRow, standIns := [], harness := (true, "21946087f199bd93ea9d3d5fd9d7f2a7c06fe72fef1240ab55ee3890a036e438"), looks := true }, kinds := [], alts := [], laidByText := true, laidKinds := [.handle, .widerDeep], laidTests := true, laidLooks := .later }
def FsckLoadsCardSaid : Prop := Claim7.holds Tryz.pinned (.plain (OpenSpec.ofChange fsckLoadsSpec)) fsckLoadsCard

/-- THE SECOND FORM's CARD OF 'coppicelaw22.FsckWhole'. -/
def fsckWholeUptoCard : Claim7 := { stood := { row := fsckWholeUptoRow, standIns := [], harness := (true, "21946087f199bd93ea9d3d5fd9d7f2a7c06fe72fef1240ab55ee3890a036e438"), looks := true }, kinds := [], alts := [], laidByText := true, laidKinds := [.widerDeep], laidTests := true, laidLooks := .later }
def FsckWholeUptoCardSaid : Prop := Claim7.holds Tryz.pinned (.plain (OpenSpec.upto fsckWholeSpec)) fsckWholeUptoCard

/-- THE SECOND FORM's CARD OF 'coppicelaw22.FsckGrown'. -/
def fsckGrownUptoCard : Claim7 := { stood := { row := fsckGrownUptoRow, standIns := [], harness := (true, "21946087f199bd93ea9d3d5fd9d7f2a7c06fe72fef1240ab55ee3890a036e438"), looks := true }, kinds := [], alts := [], laidByText := true, laidKinds := [.widerDeep], laidTests := true, laidLooks := .later }
def FsckGrownUptoCardSaid : Prop := Claim7.holds Tryz.pinned (.plain (OpenSpec.upto fsckGrownSpec)) fsckGrownUptoCard

/-- THE SECOND FORM's CARD OF 'coppicelaw22.FsckFinds'. -/
def fsckFindsUptoCard : Claim7 := { stood := { row := fsckFindsUptoRow, standIns := [], harness := (true, "21946087f199bd93ea9d3d5fd9d7f2a7c06fe72fef1240ab55ee3890a036e438"), looks := true }, kinds := [], alts := [], laidByText := true, laidKinds := [.handle, .widerDeep], laidTests := true, laidLooks := .later }
def FsckFindsUptoCardSaid : Prop := Claim7.holds Tryz.pinned (.plain (OpenSpec.upto fsckFindsSpec)) fsckFindsUptoCard

/-- THE SECOND FORM's CARD OF 'coppicelaw22.FsckLoads'. -/
def fsckLoadsUptoCard : Claim7 := { stood := { row := fsckLoadsUptoRow, standIns := [], harness := (true, "21946087f199bd93ea9d3d5fd9d7f2a7c06fe72fef1240ab55ee3890a036e438"), looks := true }, kinds := [], alts := [], laidByText := true, laidKinds := [.handle, .widerDeep], laidTests := true, laidLooks := .later }
def FsckLoadsUptoCardSaid : Prop := Claim7.holds Tryz.pinned (.plain (OpenSpec.upto fsckLoadsSpec)) fsckLoadsUptoCard
end Rows
end Go.Proofs.YtjbkgbilbnccnaaGreatDoor
