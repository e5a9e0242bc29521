/- Part 5 of what the proof of this claim stands on: rules for walking the code, and what its functions answer; no conditions. -/
import Derived.Test.YtnlakpappccekaaGreatDoorY4
namespace Go.Proofs.YtnlakpappccekaaGreatDoor.X
set_option linter.unusedVariables false
set_option linter.unusedSimpArgs false
set_option maxRecDepth 20000
set_option maxHeartbeats 8000000
theorem rnA : true = runC Tryz.prog 1 cfs 60 (.call 25 argsA) (patS 13 qsA) (endS 13 qsA 461 psA vA) := by kernel_rfl
theorem ovA_ok : CmpOk Tryz.prog 1 ovA := memOv_ok (by kernel_rfl) cfs_ok num_ok' (by kernel_rfl) (by rw [← runC_eq]; exact rnA)
end Go.Proofs.YtnlakpappccekaaGreatDoor.X
