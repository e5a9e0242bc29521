/- The closed facts of the row of StreamReads, one by one. -/
import Derived.Test.YtnlakpappccekaaGreatDoorTie
import Derived.Test.YtnlakpappccekaaGreatDoorCards
import Derived.ProofKit
import Derived.LaidMore
import Derived.JoinedOf
import Derived.SevenTiedAt
namespace Go.Proofs.YtnlakpappccekaaGreatDoor.streamReads
open Go.ChangeShapes Go.WideShapes Go.RowKit
theorem j1 : (Rows.streamReadsRow.inPlace == Tryz.pinned.checked.prog.inPlace 3) = true := by kernel_rfl
theorem j2 : (Rows.streamReadsRow.unfollowed == Tryz.pinned.checked.prog.unfollowed 3) = true := by kernel_rfl
theorem j3 : (Rows.streamReadsRow.recurses == Tryz.pinned.checked.prog.recurses 3) = true := by kernel_rfl
theorem j4 : (Rows.streamReadsRow.named == Tryz.pinned.checked.prog.varsNamed 3) = true := by kernel_rfl
theorem joined : joinedFacts Tryz.pinned.checked.prog 3 Tryz.f3 Rows.streamReadsSpec Rows.streamReadsRow = true := by
  unfold joinedFacts
  rw [j1, j2, j3, j4]
  kernel_rfl
theorem wfRow : Rows.streamReadsRow.wfByText (OpenSpec.ofChange Rows.streamReadsSpec) = true := by kernel_rfl
theorem looksRow : true = Tryz.pinned.checked.prog.looks [] := by kernel_rfl
/-- no function goes at all -/
theorem noGo : false = Tryz.pinned.checked.prog.funcs.any Func.goes := by kernel_rfl
theorem goes_none {P : Program} (h : P.funcs.any Func.goes = false) (f : FuncId) : P.goes f = false := by
  unfold Program.goes
  rw [h, Bool.and_false, Bool.or_false, List.any_eq_false]
  intro g _
  cases hf : P.funcs[g]? with
  | none => simp
  | some fn =>
    have h1 := Array.any_eq_false.1 h
    obtain ⟨hl, e⟩ := Array.getElem?_eq_some_iff.1 hf
    have h2 := h1 g hl
    rw [e] at h2
    simpa using h2
theorem goes_at {P : Program} (h : P.funcs.any Func.goes = false) (s : Start) (f : String) : P.goesAt s f = false := by
  have h1 : P.goesFrom f = false := by
    unfold Program.goesFrom
    cases P.funcNamed f with
    | none => rfl
    | some g => exact goes_none h g
  have h2 : P.inits.toList.any P.goes = false := List.any_eq_false.2 fun g _ => by rw [goes_none h g]; decide
  unfold Program.goesAt
  rw [h1, h2]
  cases s <;> rfl
theorem goesRow : false = Rows.streamReadsRow.goesBy Tryz.pinned.checked.prog := (goes_at noGo.symm _ _).symm
end Go.Proofs.YtnlakpappccekaaGreatDoor.streamReads
