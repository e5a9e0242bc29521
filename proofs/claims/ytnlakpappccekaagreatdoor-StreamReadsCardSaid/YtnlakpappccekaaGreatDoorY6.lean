/- Part 6 of what the proof of this claim stands on: rules for walking the code, and what its functions answer; no conditions. -/
import Derived.Test.YtnlakpappccekaaGreatDoorY5
namespace Go.Proofs.YtnlakpappccekaaGreatDoor.X
set_option linter.unusedVariables false
set_option linter.unusedSimpArgs false
set_option maxRecDepth 20000
set_option maxHeartbeats 8000000
theorem rnP : true = runC Tryz.prog 1 (orOv ovA cfs) 60 (.call 15 argsP) (patS 7 qsP) (endS 7 qsP 3239 psP vP) := by kernel_rfl
theorem ovP_ok : CmpOk Tryz.prog 1 ovP := memOv_ok (by kernel_rfl) (ovA_ok.or cfs_ok) num_ok' (by kernel_rfl) (by rw [← runC_eq]; exact rnP)
end Go.Proofs.YtnlakpappccekaaGreatDoor.X
