/- The closed facts of the row of FsckLoads, one by one. -/
import Derived.Test.YtjbkgbilbnccnaaGreatDoorTie
import Derived.Test.YtjbkgbilbnccnaaGreatDoorCards
import Derived.ProofKit
import Derived.LaidMore
import Derived.JoinedOf
import Derived.SevenTiedAt
namespace Go.Proofs.YtjbkgbilbnccnaaGreatDoor.fsckLoads
open Go.ChangeShapes Go.WideShapes Go.RowKit
theorem j1 : (Rows.fsckLoadsRow.inPlace == Tryz.pinned.checked.prog.inPlace 6) = true := by kernel_rfl
theorem j2 : (Rows.fsckLoadsRow.unfollowed == Tryz.pinned.checked.prog.unfollowed 6) = true := by kernel_rfl
theorem j3 : (Rows.fsckLoadsRow.recurses == Tryz.pinned.checked.prog.recurses 6) = true := by kernel_rfl
theorem j4 : (Rows.fsckLoadsRow.named == Tryz.pinned.checked.prog.varsNamed 6) = true := by kernel_rfl
theorem joined : joinedFacts Tryz.pinned.checked.prog 6 Tryz.f6 Rows.fsckLoadsSpec Rows.fsckLoadsRow = true := by
  unfold joinedFacts
  rw [j1, j2, j3, j4]
  kernel_rfl
theorem wfRow : Rows.fsckLoadsRow.wfByText (OpenSpec.ofChange Rows.fsckLoadsSpec) = true := by kernel_rfl
theorem looksRow : true = Tryz.pinned.checked.prog.looks [] := by kernel_rfl
theorem goesRow : false = Rows.fsckLoadsRow.goesBy Tryz.pinned.checked.prog := by kernel_rfl
end Go.Proofs.YtjbkgbilbnccnaaGreatDoor.fsckLoads
