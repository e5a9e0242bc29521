/- Part 7 of what the proof of this claim stands on: rules for walking the code, and what its functions answer; no conditions. -/
import Derived.Test.YtnlakpappccekaaGreatDoorY6
namespace Go.Proofs.YtnlakpappccekaaGreatDoor.X
set_option linter.unusedVariables false
set_option linter.unusedSimpArgs false
set_option maxRecDepth 20000
set_option maxHeartbeats 8000000
theorem rnC : true = runC Tryz.prog 1 cfs 60 (.call 25 argsC) (patS 3245 qsC) (endS 3245 qsC 3693 psC vC) := by kernel_rfl
theorem ovC_ok : CmpOk Tryz.prog 1 ovC := memOv_ok (by kernel_rfl) cfs_ok num_ok' (by kernel_rfl) (by rw [← runC_eq]; exact rnC)
end Go.Proofs.YtnlakpappccekaaGreatDoor.X
