/- The closed facts of the row of FsckFinds, one by one. -/
import Derived.Test.YtjbkgbilbnccnaaGreatDoorTie
import Derived.Test.YtjbkgbilbnccnaaGreatDoorCards
import Derived.ProofKit
import Derived.LaidMore
import Derived.JoinedOf
import Derived.SevenTiedAt
namespace Go.Proofs.YtjbkgbilbnccnaaGreatDoor.fsckFinds
open Go.ChangeShapes Go.WideShapes Go.RowKit
theorem j1 : (Rows.fsckFindsRow.inPlace == Tryz.pinned.checked.prog.inPlace 5) = true := by kernel_rfl
theorem j2 : (Rows.fsckFindsRow.unfollowed == Tryz.pinned.checked.prog.unfollowed 5) = true := by kernel_rfl
theorem j3 : (Rows.fsckFindsRow.recurses == Tryz.pinned.checked.prog.recurses 5) = true := by kernel_rfl
theorem j4 : (Rows.fsckFindsRow.named == Tryz.pinned.checked.prog.varsNamed 5) = true := by kernel_rfl
theorem joined : joinedFacts Tryz.pinned.checked.prog 5 Tryz.f5 Rows.fsckFindsSpec Rows.fsckFindsRow = true := by
  unfold joinedFacts
  rw [j1, j2, j3, j4]
  kernel_rfl
theorem wfRow : Rows.fsckFindsRow.wfByText (OpenSpec.ofChange Rows.fsckFindsSpec) = true := by kernel_rfl
theorem looksRow : true = Tryz.pinned.checked.prog.looks [] := by kernel_rfl
theorem goesRow : false = Rows.fsckFindsRow.goesBy Tryz.pinned.checked.prog := by kernel_rfl
end Go.Proofs.YtjbkgbilbnccnaaGreatDoor.fsckFinds
