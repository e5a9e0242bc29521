/- Part 8 of what the proof of this claim stands on: rules for walking the code, and what its functions answer; no conditions. -/
import Derived.Test.YtnlakpappccekaaGreatDoorY7
namespace Go.Proofs.YtnlakpappccekaaGreatDoor.X
set_option linter.unusedVariables false
set_option linter.unusedSimpArgs false
set_option maxRecDepth 20000
set_option maxHeartbeats 8000000
theorem rnQ : true = runC Tryz.prog 1 (orOv ovC cfs) 60 (.call 15 argsQ) (patS 3239 qsQ) (endS 3239 qsQ 6001 psQ vQ) := by kernel_rfl
theorem ovQ_ok : CmpOk Tryz.prog 1 ovQ := memOv_ok (by kernel_rfl) (ovC_ok.or cfs_ok) num_ok' (by kernel_rfl) (by rw [← runC_eq]; exact rnQ)
end Go.Proofs.YtnlakpappccekaaGreatDoor.X
